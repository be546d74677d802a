/- Texts for a law, part 5: they walk the functions that the law reaches, and state what holds of them; without conditions beyond each theorem's own. -/
import Derived.Test.YtoajhdnfdfbmaaaGreatDoorQartD
namespace Go.Proofs.Ytoajhdnfdfbmaaa
open Go Go.Eng
set_option linter.unusedSimpArgs false
set_option linter.unusedVariables false
set_option maxRecDepth 4000
abbrev badA (a : DAttr) : Prop := 40 < a.classes.length ∨ 40 < a.pairs.length ∨ 600 < longN a
def argsW (l : List Bs) : Nat := (l.map fun s => s.length / 40).sum
def citesW (l : List DCite) : Nat := (l.map fun c => (c.key.length + c.pre.length + c.suf.length) / 40).sum
def wLoop (rec : List Inl → Int) (n : Int) : List Inl → Int
 | [] => n
 | .mk _ t d ti a args cites kids :: xs => if n < 1000 then (if 300 < t.length + d.length + ti.length ∨ badA a ∨ 9 < args.length ∨ 9 < cites.length then 1000 else wLoop rec (n + argsW args + citesW cites + rec kids) xs) else n
def wgt : Nat → List Inl → Int
 | 0, _ => 1000
 | f + 1, xs => if 200 < xs.length then 1000 else wLoop (wgt f) xs.length xs
theorem wgt_big {f : Nat} {xs : List Inl} (h : f = 0 ∨ 200 < xs.length) : wgt f xs = 1000 := by
 cases f with
 | zero => rfl
 | succ f => rw [wgt, if_pos (by omega)]
theorem wgt_go {f : Nat} {xs : List Inl} (h : 0 < f) (h2 : xs.length ≤ 200) : wgt f xs = wLoop (wgt (f - 1)) xs.length (xs.drop 0) := by
 cases f with
 | zero => omega
 | succ f => rw [wgt, if_neg (by omega)]; rfl
theorem wLoop_at {rec : List Inl → Int} {n : Int} {xs : List Inl} {i : Nat} {k : Int} {t d ti : Bs} {a : DAttr} {args : List Bs} {cites : List DCite} {kids : List Inl} (h : xs[i]? = some (.mk k t d ti a args cites kids)) (hn : n < 1000) :
  wLoop rec n (xs.drop i) = if 300 < t.length + d.length + ti.length ∨ badA a ∨ 9 < args.length ∨ 9 < cites.length then 1000 else wLoop rec (n + argsW args + citesW cites + rec kids) (xs.drop (i + 1)) := by
 obtain ⟨hlt, he⟩ := List.getElem?_eq_some_iff.1 h
 rw [List.drop_eq_getElem_cons hlt, he, wLoop, if_pos hn]
theorem wLoop_end {rec : List Inl → Int} {n : Int} {xs : List Inl} {i : Nat} (h : xs.length ≤ i ∨ ¬ n < 1000) : wLoop rec n (xs.drop i) = n := by
 rcases h with h | h
 ·
  rw [List.drop_eq_nil_of_le h, wLoop]
 ·
  cases hd : xs.drop i with
  | nil => rw [wLoop]
  | cons x r => cases x; rw [wLoop, if_neg h]
def hLoop (rec : List Blk → Int) (n : Int) : List Blk → Int
 | [] => n
 | .mk _ _ inf t d ti a line kids :: xs => if n < 1000 then (if 300 < inf.length + t.length + d.length + ti.length ∨ badA a then 1000 else hLoop rec (n + wgt 21 line + rec kids) xs) else n
def hvy : Nat → List Blk → Int
 | 0, _ => 1000
 | f + 1, xs => if 200 < xs.length then 1000 else hLoop (hvy f) xs.length xs
theorem hvy_big {f : Nat} {xs : List Blk} (h : f = 0 ∨ 200 < xs.length) : hvy f xs = 1000 := by
 cases f with
 | zero => rfl
 | succ f => rw [hvy, if_pos (by omega)]
theorem hvy_go {f : Nat} {xs : List Blk} (h : 0 < f) (h2 : xs.length ≤ 200) : hvy f xs = hLoop (hvy (f - 1)) xs.length (xs.drop 0) := by
 cases f with
 | zero => omega
 | succ f => rw [hvy, if_neg (by omega)]; rfl
theorem hLoop_at {rec : List Blk → Int} {n : Int} {xs : List Blk} {i : Nat} {k lv : Int} {inf t d ti : Bs} {a : DAttr} {line : List Inl} {kids : List Blk} (h : xs[i]? = some (.mk k lv inf t d ti a line kids)) (hn : n < 1000) :
  hLoop rec n (xs.drop i) = if 300 < inf.length + t.length + d.length + ti.length ∨ badA a then 1000 else hLoop rec (n + wgt 21 line + rec kids) (xs.drop (i + 1)) := by
 obtain ⟨hlt, he⟩ := List.getElem?_eq_some_iff.1 h
 rw [List.drop_eq_getElem_cons hlt, he, hLoop, if_pos hn]
theorem hLoop_end {rec : List Blk → Int} {n : Int} {xs : List Blk} {i : Nat} (h : xs.length ≤ i ∨ ¬ n < 1000) : hLoop rec n (xs.drop i) = n := by
 rcases h with h | h
 ·
  rw [List.drop_eq_nil_of_le h, hLoop]
 ·
  cases hd : xs.drop i with
  | nil => rw [hLoop]
  | cons x r => cases x; rw [hLoop, if_neg h]
def smallB (d : DDoc) : Bool := decide (d.mts.length ≤ 70 ∧ (∀ p ∈ d.mts, p.1.length + p.2.length ≤ 300) ∧ hvy 21 d.blocks ≤ 120)
theorem weightX_fn (fuel : Nat) : fuel ≤ 21 → ∀ (dp : Int) (v : Value) (xs : List Inl) (u : View), dp = 21 - fuel → xs.length ≤ 140737488351232 → InlS u v xs →
  FnP Tryz.prog 34 [v, .int .i64 dp] u fun r _ => ∃ n : Int, r = .int .i64 n ∧ n = wgt fuel xs ∧ 0 ≤ n ∧ n ≤ 1000 + fuel * 200000000000000 := by
 induction fuel using Nat.strongRecOn with
 | _ fuel ih =>
 intro hf dp v xs u hdp hx ha
 obtain ⟨cs, ⟨ad, cap, rfl, h1⟩, hc1⟩ := ha
 refine FnP.intro [.tmp 4] Tryz.func34 rfl rfl rfl ?_
 intro w0 D hw0
 refine Zc (Za (ya rfl rfl (Zd (ρ' := [(0, _), (1, _)]) ⟨rfl, rfl, trivial⟩ ?_)))
 refine Zb (Zc (Za (ym rfl rfl (Zf (Zal rfl rfl Tryz.s37 rfl) rfl ?_))))
 refine ya rfl rfl (Zd (ρ' := [(0, _), (1, _), (5, _)]) ⟨rfl, rfl, rfl, trivial⟩ ?_)
 refine Zb (Zc (Zc ?_))
 refine Zca 18 (decide (20 < dp ∨ 200 < xs.length)) (ρk := [(0, _), (1, _), (5, _)]) ⟨rfl, rfl, rfl, trivial⟩ ?_ ?_
 ·
  refine Za (ym rfl rfl (Zf (Zcd rfl rfl rfl) rfl ?_))
  refine ym rfl rfl ?_
  rcases Bool.eq_false_or_eq_true (decide ((20 : Int) < dp)) with hg2_2 | hg2_2
  ·
   simp only [hg2_2]
   refine Zo rfl rfl rfl rfl (Zo rfl rfl rfl rfl (Zf (Zl rfl rfl rfl) rfl ?_))
   exact Zak rfl ⟨rfl, rfl, rfl, trivial⟩ (by (first | refine (decide_eq_true ?_).symm | refine (decide_eq_false ?_).symm | refine decide_eq_decide.2 ?_ | refine decide_eq_true ?_ | refine decide_eq_false ?_) <;> (try unfold longN) <;> (try simp only [decide_eq_true_eq, decide_eq_false_iff_not] at *) <;> omega)
  ·
   simp only [hg2_2]
   refine Zk rfl rfl (ym rfl rfl (Zk rfl rfl (Zf (Zcd rfl rfl rfl) rfl ?_)))
   refine Zf (Zm rfl rfl rfl) rfl ?_
   exact Zak rfl ⟨rfl, rfl, rfl, trivial⟩ (by (first | refine (decide_eq_true ?_).symm | refine (decide_eq_false ?_).symm | refine decide_eq_decide.2 ?_ | refine decide_eq_true ?_ | refine decide_eq_false ?_) <;> (try unfold longN) <;> (try simp only [decide_eq_true_eq, decide_eq_false_iff_not] at *) <;> omega)
 refine Zb ?_
 refine Zn rfl (fun hb2 => ?_) (fun hb2 => ?_)
 ·
  refine Zc (Za (ya rfl rfl (Zd (ρ' := [(4, _)]) ⟨rfl, trivial⟩ ?_)))
  refine Zb (Zv (Zh ?_))
  refine Zav (.tmp rfl) ?_
  exact ⟨1000, rfl, (wgt_big (by have := of_decide_eq_true hb2; omega)).symm, by omega, by omega⟩
 ·
  refine Zs (Zb (Zc (Zc (Za (ya rfl rfl (Zd (ρ' := [(0, _), (1, _), (5, _), (6, _)]) ⟨rfl, rfl, rfl, rfl, trivial⟩ ?_))))))
  refine Zb (Zaa ?_)
  refine Zau (fun m ρ σ u' => ∃ i : Nat, i + m = xs.length ∧ VLe u u' ∧ ∃ (n : Int), σ = [] ∧ ρ = [(0, .v (.slice ad xs.length cap)), (1, .v (.int .i64 dp)), (5, .v (.int .i64 n)), (6, .v (.int .i64 i))] ∧ (u = u' ∧ 0 ≤ n ∧ n ≤ 1000 + fuel * 200000000000000 ∧ wgt fuel xs = wLoop (wgt (fuel - 1)) n (xs.drop i))) (xs.length) ?_ ?_
  ·
   refine ⟨[(0, _), (1, _), (5, _), (6, _)], [], ⟨rfl, rfl, rfl, rfl, trivial⟩, trivial, 0, by omega, VLe.refl _, _, (by first | rfl | simp), (by first | rfl | (simp only [List.cons.injEq, Prod.mk.injEq, SV.v.injEq, Value.int.injEq, true_and, and_true]; omega) | simp), ?_⟩
   have := of_decide_eq_false hb2; exact ⟨rfl, by omega, by omega, wgt_go (by omega) (by omega)⟩
  ·
   rintro m ρ σ u' ⟨i, hi5, hle5, n, rfl, rfl, ⟨rfl, hn0, hnb, hinv⟩⟩
   refine Zc (Zc ?_)
   refine Zca 26 (decide (i < xs.length ∧ n < 1000)) (ρk := [(0, _), (1, _), (5, _), (6, _)]) ⟨rfl, rfl, rfl, rfl, trivial⟩ ?_ ?_
   ·
    refine Za (ym rfl rfl (ym rfl rfl (Zf (Zal rfl rfl Tryz.s37 rfl) rfl ?_)))
    refine Zf (Zbh rfl rfl rfl) rfl ?_
    refine ym rfl rfl ?_
    rcases Bool.eq_false_or_eq_true (decide ((i : Int) < xs.length)) with hg5_4 | hg5_4
    ·
     simp only [hg5_4]
     refine Zk rfl rfl (ym rfl rfl (Zk rfl rfl (Zf (Zbh rfl rfl rfl) rfl ?_)))
     refine Zf (Zl rfl rfl rfl) rfl ?_
     exact Zak rfl ⟨rfl, rfl, rfl, rfl, trivial⟩ (by (first | refine (decide_eq_true ?_).symm | refine (decide_eq_false ?_).symm | refine decide_eq_decide.2 ?_ | refine decide_eq_true ?_ | refine decide_eq_false ?_) <;> (try unfold longN) <;> (try simp only [decide_eq_true_eq, decide_eq_false_iff_not] at *) <;> omega)
    ·
     simp only [hg5_4]
     refine Zo rfl rfl rfl rfl (Zo rfl rfl rfl rfl (Zf (Zm rfl rfl rfl) rfl ?_))
     exact Zak rfl ⟨rfl, rfl, rfl, rfl, trivial⟩ (by (first | refine (decide_eq_true ?_).symm | refine (decide_eq_false ?_).symm | refine decide_eq_decide.2 ?_ | refine decide_eq_true ?_ | refine decide_eq_false ?_) <;> (try unfold longN) <;> (try simp only [decide_eq_true_eq, decide_eq_false_iff_not] at *) <;> omega)
   refine Zb ?_
   refine Zn rfl (fun hb5 => ?_) (fun hb5 => ?_)
   ·
    refine Zs (Zb (Zc (Zaa (Zc ?_))))
    have hb := of_decide_eq_true hb5
    have hb2 := of_decide_eq_false hb2
    have hlt : i < xs.length := hb.1
    obtain ⟨k, t, d, ti, a, args, cites, kids, vc, vp, va, vt, vk, hg, hcut1, s1, s2, s3, s4, s5, hok⟩ := hc1.at hlt
    have oneAll := (hc1.get i _ hg).one
    rw [hcut1] at oneAll
    obtain ⟨okk0, okt, okd, okti, oka, ⟨okargs, okargs2⟩, ⟨okcites, okcites2⟩, okk⟩ := hok
    obtain ⟨adt, capt, rfl, h4⟩ := s4
    obtain ⟨ada, capa, rfl, h3⟩ := s3
    have hln : xs.length ≤ 200 := by omega
    have hW := wLoop_at (rec := wgt (fuel - 1)) hg hb.2
    rw [← hinv] at hW
    refine Za (ym rfl rfl (ym rfl rfl (Zf (Zai rfl Tryz.s37 rfl rfl (by assumption) (by first | rfl | omega) (by omega)) rfl ?_)))
    refine Zf (Zag rfl Tryz.k45 rfl (by assumption) (by omega) (by assumption) (vs := [_, _, _, _, _, _, _, _, _, _]) rfl rfl rfl rfl) rfl ?_
    refine Zq rfl rfl ?_
    refine Zax trivial Tryz.z45 rfl rfl rfl ?_
    refine Zq rfl rfl ?_
    refine Zt trivial rfl Tryz.k45 rfl rfl rfl (vs := [_, _, _, _, _, _, _, _, _, _]) rfl rfl (by first | rfl | assumption | simp [Value.oneCell', str]) (Nat.le_of_ble_eq_true rfl) rfl ?_
    refine Zd (ρ' := [(0, _), (1, _), (5, _), (6, _), (7, _)]) ⟨rfl, rfl, rfl, rfl, rfl, trivial⟩ ?_
    refine Zb (Zc (Zc ?_))
    refine Zca 61 (decide (300 < t.length + d.length + ti.length ∨ (40 < a.classes.length ∨ 40 < a.pairs.length ∨ 600 < longN a) ∨ 9 < args.length ∨ 9 < cites.length)) (ρk := [(0, _), (1, _), (5, _), (6, _), (7, _)]) ⟨rfl, rfl, rfl, rfl, rfl, trivial⟩ ?_ ?_
    ·
     refine Za (Zf (Zi rfl Tryz.f45' rfl (by decide) rfl) rfl ?_)
     refine Zf (Zj rfl Tryz.k9 rfl rfl rfl (vs := [_]) rfl rfl rfl) rfl ?_
     refine Zf (Zan rfl rfl Tryz.str9 rfl) rfl ?_
     refine Zf (Zi rfl Tryz.f45' rfl (by decide) rfl) rfl ?_
     refine Zf (Zj rfl Tryz.k9 rfl rfl rfl (vs := [_]) rfl rfl rfl) rfl ?_
     refine Zf (Zan rfl rfl Tryz.str9 rfl) rfl ?_
     refine Zf (Zas rfl rfl rfl (Zu (by omega))) rfl ?_
     refine Zf (Zi rfl Tryz.f45' rfl (by decide) rfl) rfl ?_
     refine Zf (Zj rfl Tryz.k9 rfl rfl rfl (vs := [_]) rfl rfl rfl) rfl ?_
     refine Zf (Zan rfl rfl Tryz.str9 rfl) rfl ?_
     refine Zf (Zas rfl rfl rfl (Zu (by omega))) rfl ?_
     refine Zf (Zcd rfl rfl rfl) rfl ?_
     refine ym rfl rfl ?_
     rcases Bool.eq_false_or_eq_true (decide ((300 : Int) < (t.length : Int) + d.length + ti.length)) with hg8_12 | hg8_12
     ·
      simp only [hg8_12]
      iterate 3 refine Zo rfl rfl rfl rfl ?_
      refine Zf (Zl rfl rfl rfl) rfl (ym rfl rfl ?_)
      iterate 4 refine Zo rfl rfl rfl rfl ?_
      refine Zf (Zl rfl rfl rfl) rfl (ym rfl rfl ?_)
      iterate 4 refine Zo rfl rfl rfl rfl ?_
      refine Zf (Zl rfl rfl rfl) rfl ?_
      exact Zak rfl ⟨rfl, rfl, rfl, rfl, rfl, trivial⟩ (by (first | refine (decide_eq_true ?_).symm | refine (decide_eq_false ?_).symm | refine decide_eq_decide.2 ?_ | refine decide_eq_true ?_ | refine decide_eq_false ?_) <;> (try unfold NodeSm) <;> (try simp only [decide_eq_true_eq, decide_eq_false_iff_not] at *) <;> omega)
     ·
      simp only [hg8_12]
      refine Zk rfl rfl (Zf (Zi rfl Tryz.f45' rfl (by decide) rfl) rfl ?_)
      refine Zk rfl rfl (Zf (Zj rfl Tryz.k36 rfl rfl rfl (vs := [_, _, _]) rfl rfl rfl) rfl ?_)
      refine Zk rfl rfl (Zq rfl rfl ?_)
      refine Zw (caps := []) trivial rfl rfl Tryz.c33 rfl (FnP.mono (long_fn a _ _ u oka s1 s2) ?_)
      rintro v u1 hle1 rfl
      refine Zf (Zm rfl rfl rfl) rfl (ym rfl rfl ?_)
      rcases Bool.eq_false_or_eq_true (decide (40 < a.classes.length ∨ 40 < a.pairs.length ∨ 600 < longN a)) with hg8_17 | hg8_17
      ·
       simp only [hg8_17]
       iterate 4 refine Zo rfl rfl rfl rfl ?_
       refine Zf (Zl rfl rfl rfl) rfl (ym rfl rfl ?_)
       iterate 4 refine Zo rfl rfl rfl rfl ?_
       refine Zf (Zl rfl rfl rfl) rfl ?_
       exact Zak rfl ⟨rfl, rfl, rfl, rfl, rfl, trivial⟩ (by (first | refine (decide_eq_true ?_).symm | refine (decide_eq_false ?_).symm | refine decide_eq_decide.2 ?_ | refine decide_eq_true ?_ | refine decide_eq_false ?_) <;> (try unfold NodeSm) <;> (try simp only [decide_eq_true_eq, decide_eq_false_iff_not] at *) <;> omega)
      ·
       simp only [hg8_17]
       refine Zk rfl rfl (Zf (Zi rfl Tryz.f45' rfl (by decide) rfl) rfl ?_)
       refine Zk rfl rfl (Zf (Zj rfl Tryz.k34 rfl rfl rfl (vs := [_]) rfl rfl rfl) rfl ?_)
       refine Zk rfl rfl (Zf (Zal rfl rfl Tryz.s34 rfl) rfl ?_)
       refine Zk rfl rfl (Zf (Zcd rfl rfl rfl) rfl ?_)
       refine Zf (Zm rfl rfl rfl) rfl (ym rfl rfl ?_)
       rcases Bool.eq_false_or_eq_true (decide ((9 : Int) < args.length)) with hg8_23 | hg8_23
       ·
        simp only [hg8_23]
        iterate 4 refine Zo rfl rfl rfl rfl ?_
        refine Zf (Zl rfl rfl rfl) rfl ?_
        exact Zak rfl ⟨rfl, rfl, rfl, rfl, rfl, trivial⟩ (by (first | refine (decide_eq_true ?_).symm | refine (decide_eq_false ?_).symm | refine decide_eq_decide.2 ?_ | refine decide_eq_true ?_ | refine decide_eq_false ?_) <;> (try unfold NodeSm) <;> (try simp only [decide_eq_true_eq, decide_eq_false_iff_not] at *) <;> omega)
       ·
        simp only [hg8_23]
        refine Zk rfl rfl (Zf (Zi rfl Tryz.f45' rfl (by decide) rfl) rfl ?_)
        refine Zk rfl rfl (Zf (Zj rfl Tryz.k43 rfl rfl rfl (vs := [_]) rfl rfl rfl) rfl ?_)
        refine Zk rfl rfl (Zf (Zal rfl rfl Tryz.s43 rfl) rfl ?_)
        refine Zk rfl rfl (Zf (Zcd rfl rfl rfl) rfl ?_)
        refine Zf (Zm rfl rfl rfl) rfl ?_
        exact Zak rfl ⟨rfl, rfl, rfl, rfl, rfl, trivial⟩ (by (first | refine (decide_eq_true ?_).symm | refine (decide_eq_false ?_).symm | refine decide_eq_decide.2 ?_ | refine decide_eq_true ?_ | refine decide_eq_false ?_) <;> (try unfold NodeSm) <;> (try simp only [decide_eq_true_eq, decide_eq_false_iff_not] at *) <;> omega)
    refine Zb ?_
    refine Zn rfl (fun hb8 => ?_) (fun hb8 => ?_)
    ·
     refine Zc (Za (ya rfl rfl (Zd (ρ' := [(4, _)]) ⟨rfl, trivial⟩ ?_)))
     refine Zb (Zv (Zh (Zr (Zh (Zh (Zr (Zh ?_)))))))
     refine Zav (.tmp rfl) ?_
     exact ⟨1000, rfl, by rw [hW, if_pos (of_decide_eq_true hb8)], by omega, by omega⟩
    ·
     refine Zs (Zb (Zc (Zc (Za (ya rfl rfl (Zd (ρ' := [(0, _), (1, _), (5, _), (6, _), (7, _), (8, _)]) ⟨rfl, rfl, rfl, rfl, rfl, rfl, trivial⟩ ?_))))))
     refine Zb (Zaa ?_)
     refine Zau (fun m ρ σ u' => ∃ j : Nat, j + m = args.length ∧ VLe u u' ∧ ∃ (n2 : Int), σ = [(7, (none, .box (inlV k t d ti a.id vc vp (.slice ada args.length capa) (.slice adt cites.length capt) vk)))] ∧ ρ = [(0, .v (.slice ad xs.length cap)), (1, .v (.int .i64 dp)), (5, .v (.int .i64 n2)), (6, .v (.int .i64 i)), (7, .p 7 0), (8, .v (.int .i64 j))] ∧ (u = u' ∧ n ≤ n2 ∧ n2 ≤ n + j * 3518437208781 ∧ n2 = n + (argsW (args.take j) : Nat))) (args.length) ?_ ?_
     ·
      refine ⟨[(0, _), (1, _), (5, _), (6, _), (7, _), (8, _)], [(7, _)], ⟨rfl, rfl, rfl, rfl, rfl, rfl, trivial⟩, ⟨rfl, trivial⟩, 0, by omega, VLe.refl _, n, (by first | rfl | simp), (by first | rfl | (simp only [List.cons.injEq, Prod.mk.injEq, SV.v.injEq, Value.int.injEq, true_and, and_true]; omega) | simp), ?_⟩
      exact ⟨rfl, by omega, by omega, by simp [argsW]⟩
     ·
      rintro mj ρ σ u' ⟨j, hi11, hle11, n2, rfl, rfl, ⟨rfl, hn1, hn2, hq2⟩⟩
      refine Zc (Zc (Za (ym rfl rfl (Zf (Zi rfl Tryz.f45' rfl (by decide) rfl) rfl ?_))))
      refine Zf (Zj rfl Tryz.k34 rfl rfl rfl (vs := [_]) rfl rfl rfl) rfl ?_
      refine Zf (Zal rfl rfl Tryz.s34 rfl) rfl ?_
      refine Zf (Zbh rfl rfl rfl) rfl ?_
      refine Zd (ρ' := [(0, _), (1, _), (5, _), (6, _), (7, _), (8, _), (66, _)]) ⟨rfl, rfl, rfl, rfl, rfl, rfl, rfl, trivial⟩ ?_
      refine Zb ?_
      refine Zn rfl (fun hb11 => ?_) (fun hb11 => ?_)
      ·
       refine Zs (Zb (Zc (Zaa ?_)))
       have hlt2 : j < args.length := by have := of_decide_eq_true hb11; omega
       have hga := List.getElem?_eq_getElem hlt2
       have hcc := cut_strsC hga
       have hsl := okargs2 _ (List.mem_of_getElem? hga)
       have hat : argsW (args.take (j + 1)) = argsW (args.take j) + (args[j]).length / 40 := sum_take _ hga
       have h8 := of_decide_eq_false hb8
       refine Za (ym rfl rfl (Zf (Zi rfl Tryz.f45' rfl (by decide) rfl) rfl ?_))
       refine Zf (Zj rfl Tryz.k34 rfl rfl rfl (vs := [_]) rfl rfl rfl) rfl ?_
       refine ym rfl rfl (Zf (Zai rfl Tryz.s34 rfl rfl (by assumption) (by first | rfl | omega) (by omega)) rfl ?_)
       refine Zf (Zag rfl Tryz.k9 rfl (by assumption) (by omega) (by assumption) (vs := [_]) rfl rfl rfl rfl) rfl ?_
       refine Zf (Zan rfl rfl Tryz.str9 rfl) rfl ?_
       refine Zf (y_quoE rfl rfl rfl (by omega) (by omega) (by omega)) rfl ?_
       refine Zf (Zas rfl rfl rfl (Zu (by omega))) rfl ?_
       refine ya rfl rfl (Zd (ρ' := [(0, _), (1, _), (5, _), (6, _), (7, _), (8, _)]) ⟨rfl, rfl, rfl, rfl, rfl, rfl, trivial⟩ ?_)
       refine Zaf (Zb (Za (ym rfl rfl (Zf (Zas rfl rfl rfl (Zu (by omega))) rfl ?_))))
       refine ya rfl rfl (Zd (ρ' := [(0, _), (1, _), (5, _), (6, _), (7, _), (8, _)]) ⟨rfl, rfl, rfl, rfl, rfl, rfl, trivial⟩ ?_)
       refine Zae ?_
       refine ⟨mj - 1, [(0, _), (1, _), (5, _), (6, _), (7, _), (8, _)], [(7, _)], by omega, ⟨rfl, rfl, rfl, rfl, rfl, rfl, trivial⟩, ⟨rfl, trivial⟩, j + 1, by omega, hle11, _, (by first | rfl | simp), (by first | rfl | (simp only [List.cons.injEq, Prod.mk.injEq, SV.v.injEq, Value.int.injEq, true_and, and_true]; omega) | simp), ?_⟩
       exact ⟨rfl, by omega, by omega, by rw [hat]; omega⟩
      ·
       refine Zat ?_
       refine Zp (Zp ?_)
       refine Zah ?_
       refine Zb (Zc (Zc (Za (ya rfl rfl (Zd (ρ' := [(0, _), (1, _), (5, _), (6, _), (7, _), (9, _)]) ⟨rfl, rfl, rfl, rfl, rfl, rfl, trivial⟩ ?_)))))
       refine Zb (Zaa ?_)
       refine Zau (fun m ρ σ u' => ∃ j : Nat, j + m = cites.length ∧ VLe u u' ∧ ∃ (n3 : Int), σ = [(7, (none, .box (inlV k t d ti a.id vc vp (.slice ada args.length capa) (.slice adt cites.length capt) vk)))] ∧ ρ = [(0, .v (.slice ad xs.length cap)), (1, .v (.int .i64 dp)), (5, .v (.int .i64 n3)), (6, .v (.int .i64 i)), (7, .p 7 0), (9, .v (.int .i64 j))] ∧ (u = u' ∧ n2 ≤ n3 ∧ n3 ≤ n2 + j * 10555311626345 ∧ n3 = n2 + (citesW (cites.take j) : Nat))) (cites.length) ?_ ?_
       ·
        refine ⟨[(0, _), (1, _), (5, _), (6, _), (7, _), (9, _)], [(7, _)], ⟨rfl, rfl, rfl, rfl, rfl, rfl, trivial⟩, ⟨rfl, trivial⟩, 0, by omega, VLe.refl _, n2, (by first | rfl | simp), (by first | rfl | (simp only [List.cons.injEq, Prod.mk.injEq, SV.v.injEq, Value.int.injEq, true_and, and_true]; omega) | simp), ?_⟩
        exact ⟨rfl, by omega, by omega, by simp [citesW]⟩
       ·
        rintro mj ρ σ u' ⟨j, hi15, hle15, n3, rfl, rfl, ⟨rfl, hn3, hn4, hq3⟩⟩
        refine Zc (Zc (Za (ym rfl rfl (Zf (Zi rfl Tryz.f45' rfl (by decide) rfl) rfl ?_))))
        refine Zf (Zj rfl Tryz.k43 rfl rfl rfl (vs := [_]) rfl rfl rfl) rfl ?_
        refine Zf (Zal rfl rfl Tryz.s43 rfl) rfl ?_
        refine Zf (Zbh rfl rfl rfl) rfl ?_
        refine Zd (ρ' := [(0, _), (1, _), (5, _), (6, _), (7, _), (9, _), (82, _)]) ⟨rfl, rfl, rfl, rfl, rfl, rfl, rfl, trivial⟩ ?_
        refine Zb ?_
        refine Zn rfl (fun hb15 => ?_) (fun hb15 => ?_)
        ·
         refine Zs (Zb (Zc (Zaa (Zc ?_))))
         have hlt3 : j < cites.length := by have := of_decide_eq_true hb15; omega
         have hgc := List.getElem?_eq_getElem hlt3
         have hcc := cut_citesC hgc
         have hsl := okcites2 _ (List.mem_of_getElem? hgc)
         have hct : citesW (cites.take (j + 1)) = citesW (cites.take j) + ((cites[j]).key.length + (cites[j]).pre.length + (cites[j]).suf.length) / 40 := sum_take _ hgc
         have h8 := of_decide_eq_false hb8
         have h11 := of_decide_eq_false hb11
         refine Za (Zf (Zi rfl Tryz.f45' rfl (by decide) rfl) rfl ?_)
         refine Zf (Zj rfl Tryz.k43 rfl rfl rfl (vs := [_]) rfl rfl rfl) rfl ?_
         refine ym rfl rfl (Zf (Zai rfl Tryz.s43 rfl rfl (by assumption) (by first | rfl | omega) (by omega)) rfl ?_)
         refine Zf (Zag rfl Tryz.k105 rfl (by assumption) (by omega) (by assumption) (vs := [_, _, _, _]) rfl rfl rfl rfl) rfl ?_
         refine Zq rfl rfl ?_
         refine Zax trivial Tryz.z105 rfl rfl rfl ?_
         refine Zq rfl rfl ?_
         refine Zt trivial rfl Tryz.k105 rfl rfl rfl (vs := [_, _, _, _]) rfl rfl (by first | rfl | assumption | simp [Value.oneCell', str]) (Nat.le_of_ble_eq_true rfl) rfl ?_
         refine Zd (ρ' := [(0, _), (1, _), (5, _), (6, _), (7, _), (9, _), (10, _)]) ⟨rfl, rfl, rfl, rfl, rfl, rfl, rfl, trivial⟩ ?_
         refine Zb (Za (ym rfl rfl (Zf (Zi rfl Tryz.f105' rfl (by decide) rfl) rfl ?_)))
         refine Zf (Zj rfl Tryz.k9 rfl rfl rfl (vs := [_]) rfl rfl rfl) rfl ?_
         refine Zf (Zan rfl rfl Tryz.str9 rfl) rfl ?_
         refine Zf (Zi rfl Tryz.f105' rfl (by decide) rfl) rfl ?_
         refine Zf (Zj rfl Tryz.k9 rfl rfl rfl (vs := [_]) rfl rfl rfl) rfl ?_
         refine Zf (Zan rfl rfl Tryz.str9 rfl) rfl ?_
         refine Zf (Zas rfl rfl rfl (Zu (by omega))) rfl ?_
         refine Zf (Zi rfl Tryz.f105' rfl (by decide) rfl) rfl ?_
         refine Zf (Zj rfl Tryz.k9 rfl rfl rfl (vs := [_]) rfl rfl rfl) rfl ?_
         refine Zf (Zan rfl rfl Tryz.str9 rfl) rfl ?_
         refine Zf (Zas rfl rfl rfl (Zu (by omega))) rfl ?_
         refine Zf (y_quoE rfl rfl rfl (by omega) (by omega) (by omega)) rfl ?_
         refine Zf (Zas rfl rfl rfl (Zu (by omega))) rfl ?_
         refine ya rfl rfl (Zd (ρ' := [(0, _), (1, _), (5, _), (6, _), (7, _), (9, _)]) ⟨rfl, rfl, rfl, rfl, rfl, rfl, trivial⟩ ?_)
         refine Zaf (Zb (Za (ym rfl rfl (Zf (Zas rfl rfl rfl (Zu (by omega))) rfl ?_))))
         refine ya rfl rfl (Zd (ρ' := [(0, _), (1, _), (5, _), (6, _), (7, _), (9, _)]) ⟨rfl, rfl, rfl, rfl, rfl, rfl, trivial⟩ ?_)
         refine Zae ?_
         refine ⟨mj - 1, [(0, _), (1, _), (5, _), (6, _), (7, _), (9, _)], [(7, _)], by omega, ⟨rfl, rfl, rfl, rfl, rfl, rfl, trivial⟩, ⟨rfl, trivial⟩, j + 1, by omega, hle15, _, (by first | rfl | simp), (by first | rfl | (simp only [List.cons.injEq, Prod.mk.injEq, SV.v.injEq, Value.int.injEq, true_and, and_true]; omega) | simp), ?_⟩
         exact ⟨rfl, by omega, by omega, by rw [hct]; omega⟩
        ·
         refine Zat ?_
         refine Zp (Zp ?_)
         refine Zah ?_
         refine Zb ?_
         have h8 := of_decide_eq_false hb8
         have h11 := of_decide_eq_false hb11
         have h15 := of_decide_eq_false hb15
         rw [List.take_of_length_le (by omega)] at hq2 hq3
         refine Za (ym rfl rfl (Zf (Zi rfl Tryz.f45' rfl (by decide) rfl) rfl ?_))
         refine Zf (Zj rfl Tryz.k37 rfl rfl rfl (vs := [_]) rfl rfl rfl) rfl ?_
         refine ym rfl rfl (Zf (Zas rfl rfl rfl (Zu (by omega))) rfl ?_)
         refine Zq rfl rfl ?_
         refine Zw (caps := []) trivial rfl rfl Tryz.c34 rfl (FnP.mono (ih (fuel - 1) (by omega) (by omega) (dp + 1) vk kids u (by omega) okk s5) ?_)
         rintro v u1 hle1 ⟨n4, rfl, hn4e, hn40, hn4b⟩
         refine Zf (Zas rfl rfl rfl (Zu (by omega))) rfl ?_
         refine ya rfl rfl (Zd (ρ' := [(0, _), (1, _), (5, _), (6, _)]) ⟨rfl, rfl, rfl, rfl, trivial⟩ ?_)
         refine Zaf (Zb (Za (ym rfl rfl (Zf (Zas rfl rfl rfl (Zu (by omega))) rfl ?_))))
         refine ya rfl rfl (Zd (ρ' := [(0, _), (1, _), (5, _), (6, _)]) ⟨rfl, rfl, rfl, rfl, trivial⟩ ?_)
         refine Zae ?_
         refine ⟨m - 1, [(0, _), (1, _), (5, _), (6, _)], [], by omega, ⟨rfl, rfl, rfl, rfl, trivial⟩, trivial, i + 1, by omega, hle5, _, (by first | rfl | simp), (by first | rfl | (simp only [List.cons.injEq, Prod.mk.injEq, SV.v.injEq, Value.int.injEq, true_and, and_true]; omega) | simp), ?_⟩
         rw [if_neg (of_decide_eq_false hb8)] at hW
         refine ⟨rfl, by omega, by omega, ?_⟩
         rw [hW]
         congr 1
         rw [hn4e] at *
         omega
   ·
    refine Zat ?_
    refine Zp (Zp ?_)
    refine Zah ?_
    refine Zb (Zc (Za (ym rfl rfl (ya rfl rfl (Zd (ρ' := [(4, _)]) ⟨rfl, trivial⟩ ?_)))))
    refine Zb (Zv ?_)
    refine Zav (.tmp rfl) ?_
    have hge := of_decide_eq_false hb5
    refine ⟨n, rfl, ?_, hn0, hnb⟩
    rw [hinv]
    exact (wLoop_end (by omega)).symm
theorem heavyX_fn (fuel : Nat) : fuel ≤ 21 → ∀ (dp : Int) (v : Value) (xs : List Blk) (u : View), dp = 21 - fuel → xs.length ≤ 140737488351232 → BlkS u v xs →
  FnP Tryz.prog 14 [v, .int .i64 dp] u fun r _ => ∃ n : Int, r = .int .i64 n ∧ n = hvy fuel xs ∧ 0 ≤ n ∧ n ≤ 1000 + fuel * 5000000000000000 := by
 induction fuel using Nat.strongRecOn with
 | _ fuel ih =>
 intro hf dp v xs u hdp hx ha
 obtain ⟨cs, ⟨ad, cap, rfl, h1⟩, hc1⟩ := ha
 refine FnP.intro [.tmp 4] Tryz.func14 rfl rfl rfl ?_
 intro w0 D hw0
 refine Zc (Za (ya rfl rfl (Zd (ρ' := [(0, _), (1, _)]) ⟨rfl, rfl, trivial⟩ ?_)))
 refine Zb (Zc (Za (ym rfl rfl (Zf (Zal rfl rfl Tryz.s23 rfl) rfl ?_))))
 refine ya rfl rfl (Zd (ρ' := [(0, _), (1, _), (5, _)]) ⟨rfl, rfl, rfl, trivial⟩ ?_)
 refine Zb (Zc (Zc ?_))
 refine Zca 15 (decide (20 < dp ∨ 200 < xs.length)) (ρk := [(0, _), (1, _), (5, _)]) ⟨rfl, rfl, rfl, trivial⟩ ?_ ?_
 ·
  refine Za (ym rfl rfl (Zf (Zcd rfl rfl rfl) rfl ?_))
  refine ym rfl rfl ?_
  rcases Bool.eq_false_or_eq_true (decide ((20 : Int) < dp)) with hg2_2 | hg2_2
  ·
   simp only [hg2_2]
   refine Zo rfl rfl rfl rfl (Zo rfl rfl rfl rfl (Zf (Zl rfl rfl rfl) rfl ?_))
   exact Zak rfl ⟨rfl, rfl, rfl, trivial⟩ (by (first | refine (decide_eq_true ?_).symm | refine (decide_eq_false ?_).symm | refine decide_eq_decide.2 ?_ | refine decide_eq_true ?_ | refine decide_eq_false ?_) <;> (try unfold longN) <;> (try simp only [decide_eq_true_eq, decide_eq_false_iff_not] at *) <;> omega)
  ·
   simp only [hg2_2]
   refine Zk rfl rfl (ym rfl rfl (Zk rfl rfl (Zf (Zcd rfl rfl rfl) rfl ?_)))
   refine Zf (Zm rfl rfl rfl) rfl ?_
   exact Zak rfl ⟨rfl, rfl, rfl, trivial⟩ (by (first | refine (decide_eq_true ?_).symm | refine (decide_eq_false ?_).symm | refine decide_eq_decide.2 ?_ | refine decide_eq_true ?_ | refine decide_eq_false ?_) <;> (try unfold longN) <;> (try simp only [decide_eq_true_eq, decide_eq_false_iff_not] at *) <;> omega)
 refine Zb ?_
 refine Zn rfl (fun hb2 => ?_) (fun hb2 => ?_)
 ·
  refine Zc (Za (ya rfl rfl (Zd (ρ' := [(4, _)]) ⟨rfl, trivial⟩ ?_)))
  refine Zb (Zv (Zh ?_))
  refine Zav (.tmp rfl) ?_
  exact ⟨1000, rfl, (hvy_big (by have := of_decide_eq_true hb2; omega)).symm, by omega, by omega⟩
 ·
  refine Zs (Zb (Zc (Zc (Za (ya rfl rfl (Zd (ρ' := [(0, _), (1, _), (5, _), (6, _)]) ⟨rfl, rfl, rfl, rfl, trivial⟩ ?_))))))
  refine Zb (Zaa ?_)
  refine Zau (fun m ρ σ u' => ∃ i : Nat, i + m = xs.length ∧ VLe u u' ∧ ∃ (n : Int), σ = [] ∧ ρ = [(0, .v (.slice ad xs.length cap)), (1, .v (.int .i64 dp)), (5, .v (.int .i64 n)), (6, .v (.int .i64 i))] ∧ (u = u' ∧ 0 ≤ n ∧ n ≤ 1000 + fuel * 5000000000000000 ∧ hvy fuel xs = hLoop (hvy (fuel - 1)) n (xs.drop i))) (xs.length) ?_ ?_
  ·
   refine ⟨[(0, _), (1, _), (5, _), (6, _)], [], ⟨rfl, rfl, rfl, rfl, trivial⟩, trivial, 0, by omega, VLe.refl _, _, (by first | rfl | simp), (by first | rfl | (simp only [List.cons.injEq, Prod.mk.injEq, SV.v.injEq, Value.int.injEq, true_and, and_true]; omega) | simp), ?_⟩
   have := of_decide_eq_false hb2; exact ⟨rfl, by omega, by omega, hvy_go (by omega) (by omega)⟩
  ·
   rintro m ρ σ u' ⟨i, hi5, hle5, n, rfl, rfl, ⟨rfl, hn0, hnb, hinv⟩⟩
   refine Zc (Zc ?_)
   refine Zca 23 (decide (i < xs.length ∧ n < 1000)) (ρk := [(0, _), (1, _), (5, _), (6, _)]) ⟨rfl, rfl, rfl, rfl, trivial⟩ ?_ ?_
   ·
    refine Za (ym rfl rfl (ym rfl rfl (Zf (Zal rfl rfl Tryz.s23 rfl) rfl ?_)))
    refine Zf (Zbh rfl rfl rfl) rfl ?_
    refine ym rfl rfl ?_
    rcases Bool.eq_false_or_eq_true (decide ((i : Int) < xs.length)) with hg5_4 | hg5_4
    ·
     simp only [hg5_4]
     refine Zk rfl rfl (ym rfl rfl (Zk rfl rfl (Zf (Zbh rfl rfl rfl) rfl ?_)))
     refine Zf (Zl rfl rfl rfl) rfl ?_
     exact Zak rfl ⟨rfl, rfl, rfl, rfl, trivial⟩ (by (first | refine (decide_eq_true ?_).symm | refine (decide_eq_false ?_).symm | refine decide_eq_decide.2 ?_ | refine decide_eq_true ?_ | refine decide_eq_false ?_) <;> (try unfold longN) <;> (try simp only [decide_eq_true_eq, decide_eq_false_iff_not] at *) <;> omega)
    ·
     simp only [hg5_4]
     refine Zo rfl rfl rfl rfl (Zo rfl rfl rfl rfl (Zf (Zm rfl rfl rfl) rfl ?_))
     exact Zak rfl ⟨rfl, rfl, rfl, rfl, trivial⟩ (by (first | refine (decide_eq_true ?_).symm | refine (decide_eq_false ?_).symm | refine decide_eq_decide.2 ?_ | refine decide_eq_true ?_ | refine decide_eq_false ?_) <;> (try unfold longN) <;> (try simp only [decide_eq_true_eq, decide_eq_false_iff_not] at *) <;> omega)
   refine Zb ?_
   refine Zn rfl (fun hb5 => ?_) (fun hb5 => ?_)
   ·
    refine Zs (Zb (Zc (Zaa (Zc ?_))))
    have hb := of_decide_eq_true hb5
    have hb2 := of_decide_eq_false hb2
    have hlt : i < xs.length := hb.1
    obtain ⟨k, lv, inf, t, d, ti, a, line, kids, vc, vp, vl, vk, hg, hcut1, s1, s2, s3, s4, hok⟩ := hc1.at hlt
    have oneAll := (hc1.get i _ hg).one
    rw [hcut1] at oneAll
    obtain ⟨okk0, oklv, oki, okt, okd, okti, oka, okl, okk⟩ := hok
    have hln : xs.length ≤ 200 := by omega
    have hW := hLoop_at (rec := hvy (fuel - 1)) hg hb.2
    rw [← hinv] at hW
    refine Za (ym rfl rfl (ym rfl rfl (Zf (Zai rfl Tryz.s23 rfl rfl (by assumption) (by first | rfl | omega) (by omega)) rfl ?_)))
    refine Zf (Zag rfl Tryz.k39 rfl (by assumption) (by omega) (by assumption) (vs := [_, _, _, _, _, _, _, _, _, _, _]) rfl rfl rfl rfl) rfl ?_
    refine Zq rfl rfl ?_
    refine Zax trivial Tryz.z39 rfl rfl rfl ?_
    refine Zq rfl rfl ?_
    refine Zt trivial rfl Tryz.k39 rfl rfl rfl (vs := [_, _, _, _, _, _, _, _, _, _, _]) rfl rfl (by first | rfl | assumption | simp [Value.oneCell', str]) (Nat.le_of_ble_eq_true rfl) rfl ?_
    refine Zd (ρ' := [(0, _), (1, _), (5, _), (6, _), (7, _)]) ⟨rfl, rfl, rfl, rfl, rfl, trivial⟩ ?_
    refine Zb (Zc (Zc ?_))
    refine Zca 50 (decide (300 < inf.length + t.length + d.length + ti.length ∨ 40 < a.classes.length ∨ 40 < a.pairs.length ∨ 600 < longN a)) (ρk := [(0, _), (1, _), (5, _), (6, _), (7, _)]) ⟨rfl, rfl, rfl, rfl, rfl, trivial⟩ ?_ ?_
    ·
     refine Za (Zf (Zi rfl Tryz.f39' rfl (by decide) rfl) rfl ?_)
     refine Zf (Zj rfl Tryz.k9 rfl rfl rfl (vs := [_]) rfl rfl rfl) rfl ?_
     refine Zf (Zan rfl rfl Tryz.str9 rfl) rfl ?_
     refine Zf (Zi rfl Tryz.f39' rfl (by decide) rfl) rfl ?_
     refine Zf (Zj rfl Tryz.k9 rfl rfl rfl (vs := [_]) rfl rfl rfl) rfl ?_
     refine Zf (Zan rfl rfl Tryz.str9 rfl) rfl ?_
     refine Zf (Zas rfl rfl rfl (Zu (by omega))) rfl ?_
     refine Zf (Zi rfl Tryz.f39' rfl (by decide) rfl) rfl ?_
     refine Zf (Zj rfl Tryz.k9 rfl rfl rfl (vs := [_]) rfl rfl rfl) rfl ?_
     refine Zf (Zan rfl rfl Tryz.str9 rfl) rfl ?_
     refine Zf (Zas rfl rfl rfl (Zu (by omega))) rfl ?_
     refine Zf (Zi rfl Tryz.f39' rfl (by decide) rfl) rfl ?_
     refine Zf (Zj rfl Tryz.k9 rfl rfl rfl (vs := [_]) rfl rfl rfl) rfl ?_
     refine Zf (Zan rfl rfl Tryz.str9 rfl) rfl ?_
     refine Zf (Zas rfl rfl rfl (Zu (by omega))) rfl ?_
     refine Zf (Zcd rfl rfl rfl) rfl ?_
     refine ym rfl rfl ?_
     rcases Bool.eq_false_or_eq_true (decide ((300 : Int) < (t.length : Int) + inf.length + d.length + ti.length)) with hg8_16 | hg8_16
     ·
      simp only [hg8_16]
      iterate 3 refine Zo rfl rfl rfl rfl ?_
      refine Zf (Zl rfl rfl rfl) rfl ?_
      exact Zak rfl ⟨rfl, rfl, rfl, rfl, rfl, trivial⟩ (by (first | refine (decide_eq_true ?_).symm | refine (decide_eq_false ?_).symm | refine decide_eq_decide.2 ?_ | refine decide_eq_true ?_ | refine decide_eq_false ?_) <;> (try unfold smB1) <;> (try simp only [decide_eq_true_eq, decide_eq_false_iff_not] at *) <;> omega)
     ·
      simp only [hg8_16]
      refine Zk rfl rfl (Zf (Zi rfl Tryz.f39' rfl (by decide) rfl) rfl ?_)
      refine Zk rfl rfl (Zf (Zj rfl Tryz.k36 rfl rfl rfl (vs := [_, _, _]) rfl rfl rfl) rfl ?_)
      refine Zk rfl rfl (Zq rfl rfl ?_)
      refine Zw (caps := []) trivial rfl rfl Tryz.c33 rfl (FnP.mono (long_fn a _ _ u oka s1 s2) ?_)
      rintro v u1 hle1 rfl
      refine Zf (Zm rfl rfl rfl) rfl ?_
      exact Zak rfl ⟨rfl, rfl, rfl, rfl, rfl, trivial⟩ (by (first | refine (decide_eq_true ?_).symm | refine (decide_eq_false ?_).symm | refine decide_eq_decide.2 ?_ | refine decide_eq_true ?_ | refine decide_eq_false ?_) <;> (try unfold smB1) <;> (try simp only [decide_eq_true_eq, decide_eq_false_iff_not] at *) <;> omega)
    refine Zb ?_
    refine Zn rfl (fun hb8 => ?_) (fun hb8 => ?_)
    ·
     refine Zc (Za (ya rfl rfl (Zd (ρ' := [(4, _)]) ⟨rfl, trivial⟩ ?_)))
     refine Zb (Zv (Zh (Zr (Zh (Zh (Zr (Zh ?_)))))))
     refine Zav (.tmp rfl) ?_
     exact ⟨1000, rfl, by rw [hW, if_pos (of_decide_eq_true hb8)], by omega, by omega⟩
    ·
     refine Zs (Zb ?_)
     refine Zbu Tryz.mixed rfl [(7, _)] ⟨rfl, trivial⟩ ?_
     refine ra_y (i := 0) rfl (by kernel_rfl) (by kernel_rfl) (by kernel_rfl) (Zg (Ze (Ze (Zg (Ze (Zam)))))) (Zbj rfl rfl) rfl ?_
     refine ra_y (i := 1) rfl (by kernel_rfl) (by kernel_rfl) (by kernel_rfl) (Zg (Ze (Ze (Zg (Ze (Zam)))))) (Zi rfl Tryz.f39' rfl (by decide) rfl) rfl ?_
     refine ra_y (i := 2) rfl (by kernel_rfl) (by kernel_rfl) (by kernel_rfl) (Zg (Ze (Ze (Zg (Ze (Zam)))))) (Zj rfl Tryz.k37 rfl rfl rfl (vs := [_]) rfl rfl rfl) rfl ?_
     refine ra_y (i := 4) rfl (by kernel_rfl) (by kernel_rfl) (by kernel_rfl) (Zg (Ze (Ze (Zg (Ze (Zam)))))) (Zi rfl Tryz.f39' rfl (by decide) rfl) rfl ?_
     refine ra_y (i := 5) rfl (by kernel_rfl) (by kernel_rfl) (by kernel_rfl) (Zg (Ze (Ze (Zg (Ze (Zam)))))) (Zj rfl Tryz.k23 rfl rfl rfl (vs := [_]) rfl rfl rfl) rfl ?_
     refine ra_y (i := 6) rfl (by kernel_rfl) (by kernel_rfl) (by kernel_rfl) (Zg (Ze (Ze (Zg (Ze (Zam)))))) (Zbj rfl rfl) rfl ?_
     refine ra_y (i := 7) rfl (by kernel_rfl) (by kernel_rfl) (by kernel_rfl) (Zg (Ze (Ze (Zg (Ze (Zam)))))) (Zas rfl rfl rfl (Zu (by omega))) rfl ?_
     refine ra_do (i := 3) rfl rfl (by kernel_rfl) ?_
     refine Zw (caps := []) ⟨rfl, trivial⟩ rfl rfl Tryz.c34 rfl (FnP.mono (weightX_fn 21 (by omega) 0 vl line u (by omega) okl s3) ?_)
     rintro v u1 hle1 ⟨n4, rfl, hn4e, hn40, hn4b⟩
     refine ra_do (i := 8) rfl rfl (by kernel_rfl) ?_
     refine Zw (caps := []) ⟨rfl, trivial⟩ rfl rfl Tryz.c14 rfl (FnP.mono (ih (fuel - 1) (by omega) (by omega) (dp + 1) vk kids u (by omega) okk s4) ?_)
     rintro v u1 hle1 ⟨n5, rfl, hn5e, hn50, hn5b⟩
     refine ra_y (i := 9) rfl (by kernel_rfl) (by kernel_rfl) (by kernel_rfl) (Zg (Ze (Ze (Zg (Ze (Zam)))))) (Zas rfl rfl rfl (Zu (by omega))) rfl ?_
     refine ra_y (i := 10) rfl (by kernel_rfl) (by kernel_rfl) (by kernel_rfl) (Zg (Ze (Ze (Zg (Ze (Zam)))))) (Zas rfl rfl rfl (Zu (by omega))) rfl ?_
     refine ra_y (i := 11) rfl (by kernel_rfl) (by kernel_rfl) (by kernel_rfl) (Zg (Ze (Ze (Zg (Ze (Zam)))))) (y_assign rfl rfl) rfl ?_
     refine ra_end (by kernel_rfl) (ρ' := [(0, _), (1, _), (5, _), (6, _)]) ⟨rfl, rfl, rfl, rfl, trivial⟩ ?_
     refine Zaf (Zb (Za (ym rfl rfl (Zf (Zas rfl rfl rfl (Zu (by omega))) rfl ?_))))
     refine ya rfl rfl (Zd (ρ' := [(0, _), (1, _), (5, _), (6, _)]) ⟨rfl, rfl, rfl, rfl, trivial⟩ ?_)
     refine Zae ?_
     refine ⟨m - 1, [(0, _), (1, _), (5, _), (6, _)], [], by omega, ⟨rfl, rfl, rfl, rfl, trivial⟩, trivial, i + 1, by omega, hle5, _, (by first | rfl | simp), (by first | rfl | (simp only [List.cons.injEq, Prod.mk.injEq, SV.v.injEq, Value.int.injEq, true_and, and_true]; omega) | simp), ?_⟩
     rw [if_neg (of_decide_eq_false hb8)] at hW
     refine ⟨rfl, by omega, by omega, ?_⟩
     rw [hW]
     congr 1
     rw [hn4e, hn5e] at *
     omega
   ·
    refine Zat ?_
    refine Zp (Zp ?_)
    refine Zah ?_
    refine Zb (Zc (Za (ym rfl rfl (ya rfl rfl (Zd (ρ' := [(4, _)]) ⟨rfl, trivial⟩ ?_)))))
    refine Zb (Zv ?_)
    refine Zav (.tmp rfl) ?_
    have hge := of_decide_eq_false hb5
    refine ⟨n, rfl, ?_, hn0, hnb⟩
    rw [hinv]
    exact (hLoop_end (by omega)).symm
theorem smallX_fn (d : DDoc) (vm vb : Value) (u : View) (hm : PrS u vm d.mts) (hbk : BlkS u vb d.blocks) (hok : DocOk d) :
  FnP Tryz.prog 5 [.agg #[vm, vb]] u fun r _ => r = .bool (smallB d) := by
 obtain ⟨ad, cap, rfl, h1⟩ := hm
 obtain ⟨⟨okm, okm2⟩, okb⟩ := hok
 refine FnP.intro [.tmp 2] Tryz.func5 rfl rfl rfl ?_
 intro w0 D hw0
 refine Zc (Za (Zq rfl rfl ?_))
 refine Zbl trivial rfl (cs := [_, _]) rfl rfl rfl rfl ?_
 refine ya rfl rfl (Zd (ρ' := [(1, _)]) ⟨rfl, trivial⟩ ?_)
 refine Zb (Zc (Zc (Za (Zf (Zi rfl Tryz.f25' rfl (by decide) rfl) rfl ?_))))
 refine Zf (Zj rfl Tryz.k22 rfl rfl rfl (vs := [_]) rfl rfl rfl) rfl ?_
 refine Zf (Zal rfl rfl Tryz.s22 rfl) rfl ?_
 refine Zf (Zcd rfl rfl rfl) rfl ?_
 refine Zd (ρ' := [(1, _), (7, _)]) ⟨rfl, rfl, trivial⟩ ?_
 refine Zb ?_
 refine Zn rfl (fun hb1 => ?_) (fun hb1 => ?_)
 ·
  refine Zc (Za (ya rfl rfl (Zd (ρ' := [(2, _)]) ⟨rfl, trivial⟩ ?_)))
  refine Zb (Zv (Zh ?_))
  refine Zav (.tmp rfl) ?_
  unfold smallB; rw [decide_eq_false]; intro h; exact absurd (of_decide_eq_true hb1) (by omega)
 ·
  refine Zs (Zb (Zc (Zc (Za (ya rfl rfl (Zd (ρ' := [(1, _), (3, _)]) ⟨rfl, rfl, trivial⟩ ?_))))))
  refine Zb (Zaa ?_)
  refine Zau (fun m ρ σ u' => ∃ i : Nat, i + m = d.mts.length ∧ VLe u u' ∧ σ = [(1, (none, .box [.slice ad d.mts.length cap, vb]))] ∧ ρ = [(1, .p 1 0), (3, .v (.int .i64 i))] ∧ (u = u' ∧ ∀ p ∈ d.mts.take i, p.1.length + p.2.length ≤ 300)) (d.mts.length) ?_ ?_
  ·
   refine ⟨[(1, _), (3, _)], [(1, _)], ⟨rfl, rfl, trivial⟩, ⟨rfl, trivial⟩, 0, by omega, VLe.refl _, (by first | rfl | simp), (by first | rfl | (simp only [List.cons.injEq, Prod.mk.injEq, SV.v.injEq, Value.int.injEq, true_and, and_true]; omega) | simp), ?_⟩
   exact ⟨rfl, fun p hp => by simp at hp⟩
  ·
   rintro m ρ σ u' ⟨i, hi4, hle4, rfl, rfl, ⟨rfl, hinv⟩⟩
   refine Zc (Zc (Za (ym rfl rfl (Zf (Zi rfl Tryz.f25' rfl (by decide) rfl) rfl ?_))))
   refine Zf (Zj rfl Tryz.k22 rfl rfl rfl (vs := [_]) rfl rfl rfl) rfl ?_
   refine Zf (Zal rfl rfl Tryz.s22 rfl) rfl ?_
   refine Zf (Zbh rfl rfl rfl) rfl ?_
   refine Zd (ρ' := [(1, _), (3, _), (12, _)]) ⟨rfl, rfl, rfl, trivial⟩ ?_
   refine Zb ?_
   refine Zn rfl (fun hb4 => ?_) (fun hb4 => ?_)
   ·
    refine Zs (Zb (Zc (Zaa (Zc ?_))))
    have hlt : i < d.mts.length := by have := of_decide_eq_true hb4; omega
    have hg := List.getElem?_eq_getElem hlt
    have hcc := cut_pairsC hg
    have hsl := okm2 _ (List.mem_of_getElem? hg)
    refine Zbu Tryz.mixed rfl [(1, _)] ⟨rfl, trivial⟩ ?_
    refine ra_y (i := 0) rfl (by kernel_rfl) (by kernel_rfl) (by kernel_rfl) (Ze (Zg (Ze (Ze (Zg (Ze (Zam))))))) (Zi rfl Tryz.f25' rfl (by decide) rfl) rfl ?_
    refine ra_y (i := 1) rfl (by kernel_rfl) (by kernel_rfl) (by kernel_rfl) (Ze (Zg (Ze (Ze (Zg (Ze (Zam))))))) (Zj rfl Tryz.k22 rfl rfl rfl (vs := [_]) rfl rfl rfl) rfl ?_
    refine ra_y (i := 2) rfl (by kernel_rfl) (by kernel_rfl) (by kernel_rfl) (Ze (Zg (Ze (Ze (Zg (Ze (Zam))))))) (Zbj rfl rfl) rfl ?_
    refine ra_y (i := 3) rfl (by kernel_rfl) (by kernel_rfl) (by kernel_rfl) (Ze (Zg (Ze (Ze (Zg (Ze (Zam))))))) (Zai rfl Tryz.s22 rfl rfl (by assumption) (by first | rfl | omega) (by omega)) rfl ?_
    refine ra_y (i := 4) rfl (by kernel_rfl) (by kernel_rfl) (by kernel_rfl) (Ze (Zg (Ze (Ze (Zg (Ze (Zam))))))) (Zap rfl Tryz.f49' rfl (by decide) rfl) rfl ?_
    refine ra_y (i := 5) rfl (by kernel_rfl) (by kernel_rfl) (by kernel_rfl) (Ze (Zg (Ze (Ze (Zg (Ze (Zam))))))) (Zag rfl Tryz.k9 rfl (by assumption) (by omega) (by assumption) (vs := [_]) rfl rfl rfl rfl) rfl ?_
    refine ra_y (i := 6) rfl (by kernel_rfl) (by kernel_rfl) (by kernel_rfl) (Ze (Zg (Ze (Ze (Zg (Ze (Zam))))))) (Zan rfl rfl Tryz.str9 rfl) rfl ?_
    refine ra_y (i := 7) rfl (by kernel_rfl) (by kernel_rfl) (by kernel_rfl) (Ze (Zg (Ze (Ze (Zg (Ze (Zam))))))) (Zi rfl Tryz.f25' rfl (by decide) rfl) rfl ?_
    refine ra_y (i := 8) rfl (by kernel_rfl) (by kernel_rfl) (by kernel_rfl) (Ze (Zg (Ze (Ze (Zg (Ze (Zam))))))) (Zj rfl Tryz.k22 rfl rfl rfl (vs := [_]) rfl rfl rfl) rfl ?_
    refine ra_y (i := 9) rfl (by kernel_rfl) (by kernel_rfl) (by kernel_rfl) (Ze (Zg (Ze (Ze (Zg (Ze (Zam))))))) (Zbj rfl rfl) rfl ?_
    refine ra_y (i := 10) rfl (by kernel_rfl) (by kernel_rfl) (by kernel_rfl) (Ze (Zg (Ze (Ze (Zg (Ze (Zam))))))) (Zai rfl Tryz.s22 rfl rfl (by assumption) (by first | rfl | omega) (by omega)) rfl ?_
    refine ra_y (i := 11) rfl (by kernel_rfl) (by kernel_rfl) (by kernel_rfl) (Ze (Zg (Ze (Ze (Zg (Ze (Zam))))))) (Zap rfl Tryz.f49' rfl (by decide) rfl) rfl ?_
    refine ra_y (i := 12) rfl (by kernel_rfl) (by kernel_rfl) (by kernel_rfl) (Ze (Zg (Ze (Ze (Zg (Ze (Zam))))))) (Zag rfl Tryz.k9 rfl (by assumption) (by omega) (by assumption) (vs := [_]) rfl rfl rfl rfl) rfl ?_
    refine ra_y (i := 13) rfl (by kernel_rfl) (by kernel_rfl) (by kernel_rfl) (Ze (Zg (Ze (Ze (Zg (Ze (Zam))))))) (Zan rfl rfl Tryz.str9 rfl) rfl ?_
    refine ra_y (i := 14) rfl (by kernel_rfl) (by kernel_rfl) (by kernel_rfl) (Ze (Zg (Ze (Ze (Zg (Ze (Zam))))))) (Zas rfl rfl rfl (Zu (by omega))) rfl ?_
    refine ra_y (i := 15) rfl (by kernel_rfl) (by kernel_rfl) (by kernel_rfl) (Ze (Zg (Ze (Ze (Zg (Ze (Zam))))))) (Zcd rfl rfl rfl) rfl ?_
    refine ra_end (by kernel_rfl) (ρ' := [(1, _), (3, _), (30, _)]) ⟨rfl, rfl, rfl, trivial⟩ ?_
    refine Zb ?_
    refine Zn rfl (fun hb6 => ?_) (fun hb6 => ?_)
    ·
     refine Zc (Za (ya rfl rfl (Zd (ρ' := [(2, _)]) ⟨rfl, trivial⟩ ?_)))
     refine Zb (Zv (Zr (Zh (Zh (Zr (Zh ?_))))))
     refine Zav (.tmp rfl) ?_
     unfold smallB; rw [decide_eq_false]; intro h; have h1 := h.2.1 _ (List.mem_of_getElem? hg); have h6 := of_decide_eq_true hb6; omega
    ·
     refine Zs (Zaf (Zb (Za (ym rfl rfl (Zf (Zas rfl rfl rfl (Zu (by omega))) rfl ?_)))))
     refine ya rfl rfl (Zd (ρ' := [(1, _), (3, _)]) ⟨rfl, rfl, trivial⟩ ?_)
     refine Zae ?_
     refine ⟨m - 1, [(1, _), (3, _)], [(1, _)], by omega, ⟨rfl, rfl, trivial⟩, ⟨rfl, trivial⟩, i + 1, by omega, hle4, (by first | rfl | simp), (by first | rfl | (simp only [List.cons.injEq, Prod.mk.injEq, SV.v.injEq, Value.int.injEq, true_and, and_true]; omega) | simp), ?_⟩
     have h6 := of_decide_eq_false hb6; refine ⟨rfl, fun p hp => ?_⟩; rcases mem_take_succ hg hp with hs | rfl; exact hinv p hs; omega
   ·
    refine Zat ?_
    refine Zp (Zp ?_)
    refine Zah ?_
    refine Zb (Zc (Za (Zf (Zi rfl Tryz.f25' rfl (by decide) rfl) rfl ?_)))
    refine Zf (Zj rfl Tryz.k23 rfl rfl rfl (vs := [_]) rfl rfl rfl) rfl ?_
    refine Zq rfl rfl ?_
    refine Zw (caps := []) trivial rfl rfl Tryz.c14 rfl (FnP.mono (heavyX_fn 21 (by omega) 0 vb d.blocks u (by omega) okb hbk) ?_)
    rintro v u1 hle1 ⟨n, rfl, hne, hn0, hnb⟩
    refine Zf (y_leq rfl rfl rfl) rfl ?_
    refine ya rfl rfl (Zd (ρ' := [(2, _)]) ⟨rfl, trivial⟩ ?_)
    refine Zb (Zv ?_)
    refine Zav (.tmp rfl) ?_
    have h1 := of_decide_eq_false hb1
    have h4 := of_decide_eq_false hb4
    rw [List.take_of_length_le (by omega)] at hinv
    unfold smallB
    congr 1
    refine decide_eq_decide.2 ⟨fun h => ⟨by omega, hinv, by rw [← hne]; exact h⟩, fun h => by rw [hne]; exact h.2.2⟩
def nodeB (B L : Nat) (t d ti : Bs) (a : DAttr) (args : List Bs) (cites : List DCite) : Prop :=
 t.length + d.length + ti.length ≤ B ∧ a.classes.length ≤ 40 ∧ a.pairs.length ≤ 40 ∧ longN a ≤ L ∧ args.length ≤ 9 ∧ cites.length ≤ 9 ∧ (∀ s ∈ args, s.length ≤ 50000) ∧ ∀ c ∈ cites, c.key.length + c.pre.length + c.suf.length ≤ 50000
mutual
def smX1 (B L : Nat) : Inl → Prop
 | .mk _ t d ti a args cites kids => nodeB B L t d ti a args cites ∧ smX B L kids
def smX (B L : Nat) : List Inl → Prop
 | [] => True
 | x :: xs => smX1 B L x ∧ smX B L xs
end
theorem smX_append {B L : Nat} : ∀ {xs ys : List Inl}, smX B L xs → smX B L ys → smX B L (xs ++ ys)
 | [], ys, _, k => k
 | x :: xs, ys, h, k => by
  unfold smX at h
  rw [List.cons_append]
  unfold smX
  exact ⟨h.1, smX_append h.2 k⟩
theorem nodeB_mono {B L B' L' : Nat} (hB : B ≤ B') (hL : L ≤ L') {t d ti : Bs} {a : DAttr} {args : List Bs} {cites : List DCite} (h : nodeB B L t d ti a args cites) : nodeB B' L' t d ti a args cites := by
 unfold nodeB at h ⊢
 exact ⟨by omega, by omega, by omega, by omega, by omega, by omega, h.2.2.2.2.2.2.1, h.2.2.2.2.2.2.2⟩
mutual
theorem smX1_mono {B L B' L' : Nat} (hB : B ≤ B') (hL : L ≤ L') : ∀ x : Inl, smX1 B L x → smX1 B' L' x
 | .mk k t d ti a args cites kids, h => by
  unfold smX1 at h ⊢
  exact ⟨nodeB_mono hB hL h.1, smX_mono hB hL kids h.2⟩
theorem smX_mono {B L B' L' : Nat} (hB : B ≤ B') (hL : L ≤ L') : ∀ xs : List Inl, smX B L xs → smX B' L' xs
 | [], _ => by unfold smX; trivial
 | x :: xs, h => by
  unfold smX at h ⊢
  exact ⟨smX1_mono hB hL x h.1, smX_mono hB hL xs h.2⟩
end
mutual
theorem smI1_of : ∀ x : Inl, smX1 90000 9000 x → smI1 x
 | .mk k t d ti a args cites kids, h => by
  unfold smX1 nodeB at h
  unfold smI1 NodeSm
  exact ⟨h.1, smI_of kids h.2⟩
theorem smI_of : ∀ xs : List Inl, smX 90000 9000 xs → smI xs
 | [], _ => by unfold smI; trivial
 | x :: xs, h => by
  unfold smX at h
  unfold smI
  exact ⟨smI1_of x h.1, smI_of xs h.2⟩
end
theorem le_sumL : ∀ {l : List Nat} {x : Nat}, x ∈ l → x ≤ l.sum
 | [], x, h => by simp at h
 | y :: l, x, h => by
  rw [List.sum_cons]
  rcases List.mem_cons.1 h with rfl | h
  ·
   omega
  ·
   have := le_sumL h; omega
theorem argsW_le {l : List Bs} {n : Nat} (h : argsW l ≤ n) : ∀ s ∈ l, s.length / 40 ≤ n := by
 intro s hs
 have : s.length / 40 ≤ argsW l := le_sumL (List.mem_map.2 ⟨s, hs, rfl⟩)
 omega
theorem citesW_le {l : List DCite} {n : Nat} (h : citesW l ≤ n) : ∀ c ∈ l, (c.key.length + c.pre.length + c.suf.length) / 40 ≤ n := by
 intro s hs
 have : (s.key.length + s.pre.length + s.suf.length) / 40 ≤ citesW l := le_sumL (List.mem_map.2 ⟨s, hs, rfl⟩)
 omega
def RecI (rec : List Inl → Int) : Prop := ∀ kids, 0 ≤ rec kids ∧ (rec kids < 1000 → (szI kids : Int) ≤ rec kids ∧ smX 300 600 kids)
theorem wLoop_small {rec : List Inl → Int} (hr : RecI rec) : ∀ (xs : List Inl) (n : Int), 0 ≤ n → n ≤ wLoop rec n xs ∨ 1000 ≤ wLoop rec n xs
 | [], n, _ => by left; rw [wLoop]; exact Int.le_refl _
 | .mk k t d ti a args cites kids :: xs, n, hn => by
  rw [wLoop]
  split
  ·
   split
   ·
    right; exact Int.le_refl _
   ·
    have h1 := (hr kids).1
    rcases wLoop_small hr xs (n + argsW args + citesW cites + rec kids) (by omega) with h | h
    ·
     left; omega
    ·
     right; exact h
  ·
   left; exact Int.le_refl _
theorem wLoop_st {rec : List Inl → Int} (hr : RecI rec) : ∀ (xs : List Inl) (n : Int), 0 ≤ n → wLoop rec n xs < 1000 → n ≤ wLoop rec n xs ∧ smX 300 600 xs ∧ (szI xs : Int) ≤ xs.length + (wLoop rec n xs - n)
 | [], n, _, h => by
  rw [wLoop] at h ⊢
  exact ⟨Int.le_refl _, by unfold smX; trivial, by simp [szI]⟩
 | .mk k t d ti a args cites kids :: xs, n, hn, h => by
  rw [wLoop] at h ⊢
  by_cases h1 : n < 1000
  ·
   rw [if_pos h1] at h ⊢
   by_cases h2 : 300 < t.length + d.length + ti.length ∨ badA a ∨ 9 < args.length ∨ 9 < cites.length
   ·
    rw [if_pos h2] at h; exact absurd h (by decide)
   ·
    rw [if_neg h2] at h ⊢
    have hk := (hr kids).1
    obtain ⟨q1, q2, q3⟩ := wLoop_st hr xs _ (by omega) h
    obtain ⟨q4, q5⟩ := (hr kids).2 (by omega)
    have ha := argsW_le (l := args) (n := 1000) (by omega)
    have hc := citesW_le (l := cites) (n := 1000) (by omega)
    unfold badA at h2
    refine ⟨by omega, ?_, by simp only [szI, sz1, List.length_cons]; omega⟩
    unfold smX smX1 nodeB
    exact ⟨⟨⟨by omega, by omega, by omega, by omega, by omega, by omega, fun s hs => by have := ha s hs; omega, fun c hcc => by have := hc c hcc; omega⟩, q5⟩, q2⟩
  ·
   rw [if_neg h1] at h; exact absurd h h1
theorem wgt_nn : ∀ (f : Nat), RecI (wgt f)
 | 0 => fun kids => ⟨by rw [wgt]; decide, fun h => by rw [wgt] at h; exact absurd h (by decide)⟩
 | f + 1 => by
  have ih := wgt_nn f
  intro kids
  rw [wgt]
  by_cases h : 200 < kids.length
  ·
   rw [if_pos h]; exact ⟨by decide, fun h => absurd h (by decide)⟩
  ·
   rw [if_neg h]
   refine ⟨?_, fun h2 => ?_⟩
   ·
    rcases wLoop_small ih kids kids.length (by omega) with h | h <;> omega
   ·
    obtain ⟨q1, q2, q3⟩ := wLoop_st ih kids _ (by omega) h2
    exact ⟨by omega, q2⟩
mutual
def smY1 : Blk → Prop
 | .mk _ _ inf t d ti a line kids => inf.length + t.length + d.length + ti.length ≤ 300 ∧ a.classes.length ≤ 40 ∧ a.pairs.length ≤ 40 ∧ longN a ≤ 600 ∧ smX 300 600 line ∧ smY kids
def smY : List Blk → Prop
 | [] => True
 | x :: xs => smY1 x ∧ smY xs
end
def RecB (rec : List Blk → Int) : Prop := ∀ kids, 0 ≤ rec kids ∧ (rec kids < 1000 → (szB kids : Int) ≤ rec kids ∧ smY kids)
theorem hLoop_small {rec : List Blk → Int} (hr : RecB rec) : ∀ (xs : List Blk) (n : Int), 0 ≤ n → n ≤ hLoop rec n xs ∨ 1000 ≤ hLoop rec n xs
 | [], n, _ => by left; rw [hLoop]; exact Int.le_refl _
 | .mk k lv inf t d ti a line kids :: xs, n, hn => by
  rw [hLoop]
  split
  ·
   split
   ·
    right; exact Int.le_refl _
   ·
    have h1 := (hr kids).1
    have h2 := (wgt_nn 21 line).1
    rcases hLoop_small hr xs (n + wgt 21 line + rec kids) (by omega) with h | h
    ·
     left; omega
    ·
     right; exact h
  ·
   left; exact Int.le_refl _
theorem hLoop_st {rec : List Blk → Int} (hr : RecB rec) : ∀ (xs : List Blk) (n : Int), 0 ≤ n → hLoop rec n xs < 1000 → n ≤ hLoop rec n xs ∧ smY xs ∧ (szB xs : Int) ≤ xs.length + (hLoop rec n xs - n)
 | [], n, _, h => by
  rw [hLoop] at h ⊢
  exact ⟨Int.le_refl _, by unfold smY; trivial, by simp [szB]⟩
 | .mk k lv inf t d ti a line kids :: xs, n, hn, h => by
  rw [hLoop] at h ⊢
  by_cases h1 : n < 1000
  ·
   rw [if_pos h1] at h ⊢
   by_cases h2 : 300 < inf.length + t.length + d.length + ti.length ∨ badA a
   ·
    rw [if_pos h2] at h; exact absurd h (by decide)
   ·
    rw [if_neg h2] at h ⊢
    have hk := (hr kids).1
    have hl := (wgt_nn 21 line).1
    obtain ⟨q1, q2, q3⟩ := hLoop_st hr xs _ (by omega) h
    obtain ⟨q4, q5⟩ := (hr kids).2 (by omega)
    obtain ⟨q6, q7⟩ := (wgt_nn 21 line).2 (by omega)
    unfold badA at h2
    refine ⟨by omega, ?_, by simp only [szB, szb, List.length_cons]; omega⟩
    unfold smY smY1
    exact ⟨⟨by omega, by omega, by omega, by omega, q7, q5⟩, q2⟩
  ·
   rw [if_neg h1] at h; exact absurd h h1
theorem hvy_nn : ∀ (f : Nat), RecB (hvy f)
 | 0 => fun kids => ⟨by rw [hvy]; decide, fun h => by rw [hvy] at h; exact absurd h (by decide)⟩
 | f + 1 => by
  have ih := hvy_nn f
  intro kids
  rw [hvy]
  by_cases h : 200 < kids.length
  ·
   rw [if_pos h]; exact ⟨by decide, fun h => absurd h (by decide)⟩
  ·
   rw [if_neg h]
   refine ⟨?_, fun h2 => ?_⟩
   ·
    rcases hLoop_small ih kids kids.length (by omega) with h | h <;> omega
   ·
    obtain ⟨q1, q2, q3⟩ := hLoop_st ih kids _ (by omega) h2
    exact ⟨by omega, q2⟩
theorem small_st {d : DDoc} (h : smallB d = true) : d.mts.length ≤ 70 ∧ szB d.blocks ≤ 120 ∧ smY d.blocks := by
 unfold smallB at h
 obtain ⟨h1, h2, h3⟩ := of_decide_eq_true h
 obtain ⟨q1, q2⟩ := (hvy_nn 21 d.blocks).2 (by omega)
 exact ⟨h1, by omega, q2⟩
mutual
theorem smB1_of : ∀ x : Blk, smY1 x → smB1 x
 | .mk k lv inf t d ti a line kids, h => by
  unfold smY1 at h
  unfold smB1
  exact ⟨by omega, by omega, by omega, by omega, smI_of line (smX_mono (by decide) (by decide) line h.2.2.2.2.1), smB_of kids h.2.2.2.2.2⟩
theorem smB_of : ∀ xs : List Blk, smY xs → smB xs
 | [], _ => by unfold smB; trivial
 | x :: xs, h => by
  unfold smY at h
  unfold smB
  exact ⟨smB1_of x h.1, smB_of xs h.2⟩
end
theorem sz_tI (d : Bs) : szI [tI d] = 1 := by simp [tI, szI, sz1]
set_option linter.unusedSimpArgs false
set_option linter.unusedVariables false
set_option maxRecDepth 4000
def pairsN (l : List (Bs × Bs)) : Nat := (l.map fun p => p.1.length + p.2.length).sum
theorem sum_setP (k v : Bs) : ∀ l : List (Bs × Bs), pairsN (setP k v l) ≤ pairsN l + v.length
 | [] => by simp [setP, pairsN]
 | p :: ps => by
  have := sum_setP k v ps
  unfold pairsN at this ⊢
  rw [setP]
  split
  ·
   simp only [List.map_cons, List.sum_cons]; omega
  ·
   simp only [List.map_cons, List.sum_cons]; omega
theorem deco_long (a : DAttr) : longN (decoA a).1 ≤ longN a + 14 := by
 have h := sum_setP roleS decoS a.pairs
 have h2 : decoS.length = 10 := rfl
 have h3 : roleS.length = 4 := rfl
 unfold pairsN at h
 unfold decoA
 split
 ·
  unfold longN; simp only; omega
 ·
  split
  ·
   unfold longN; simp only [List.map_append, List.sum_append, List.map_cons, List.map_nil, List.sum_cons, List.sum_nil]; omega
  ·
   show longN a ≤ _; omega
theorem tI_sm (d : Bs) (h : d.length ≤ 300) : smX1 300 700 (tI d) := by
 unfold tI smX1 nodeB smX
 simp [longN]
 omega
mutual
theorem fix_sm1 : ∀ x : Inl, smX1 300 600 x → smX1 300 700 (fixI1 x).1 ∧ sz1 (fixI1 x).1 ≤ 2 * sz1 x
 | .mk k t d ti a args cites kids, h => by
  unfold smX1 nodeB at h
  obtain ⟨⟨n1, n2, n3, n4, n5, n6, n7, n8⟩, hk⟩ := h
  obtain ⟨q1, q2⟩ := fix_sm kids hk
  rw [fixI1]
  have hkids : smX 300 700 (if (mute (Inl.mk k t d ti a args cites kids) && !blank d) = true then (fixI kids).1 ++ [tI d] else (fixI kids).1) ∧ szI (if (mute (Inl.mk k t d ti a args cites kids) && !blank d) = true then (fixI kids).1 ++ [tI d] else (fixI kids).1) ≤ 2 * szI kids + 1 := by
   split
   ·
    refine ⟨smX_append q1 ?_, ?_⟩
    ·
     unfold smX; exact ⟨tI_sm d (by omega), by unfold smX; trivial⟩
    ·
     rw [szI_append, sz_tI]; omega
   ·
    exact ⟨q1, by omega⟩
  have hda : (if silent (Inl.mk k t d ti a args cites kids) = true then decoA a else (a, false)).1.classes.length ≤ 40 ∧ (if silent (Inl.mk k t d ti a args cites kids) = true then decoA a else (a, false)).1.pairs.length ≤ 40 ∧ longN (if silent (Inl.mk k t d ti a args cites kids) = true then decoA a else (a, false)).1 ≤ 700 := by
   split
   ·
    obtain ⟨e1, e2, e3⟩ := decoA_id a
    have := deco_long a
    rw [e2]
    omega
   ·
    exact ⟨n2, n3, by show longN a ≤ _; omega⟩
  refine ⟨?_, by simp only [sz1]; omega⟩
  unfold smX1 nodeB
  exact ⟨⟨n1, hda.1, hda.2.1, hda.2.2, n5, n6, n7, n8⟩, hkids.1⟩
theorem fix_sm : ∀ xs : List Inl, smX 300 600 xs → smX 300 700 (fixI xs).1 ∧ szI (fixI xs).1 ≤ 2 * szI xs
 | [], _ => ⟨by rw [fixI]; unfold smX; trivial, by rw [fixI]; simp [szI]⟩
 | x :: xs, h => by
  unfold smX at h
  obtain ⟨q1, q2⟩ := fix_sm1 x h.1
  obtain ⟨q3, q4⟩ := fix_sm xs h.2
  rw [fixI]
  refine ⟨by unfold smX; exact ⟨q1, q3⟩, by simp only [szI]; omega⟩
end
theorem own_sm (k : Int) {line : List Inl} (h : smX 300 600 line) : smX 300 700 (ownR k line).1 ∧ szI (ownR k line).1 ≤ 2 * szI line + 1 := by
 obtain ⟨q1, q2⟩ := fix_sm line h
 unfold ownR
 split
 ·
  refine ⟨smX_append q1 ?_, ?_⟩
  ·
   unfold smX; exact ⟨tI_sm untS (by decide), by unfold smX; trivial⟩
  ·
   show szI ((fixI line).1 ++ [tI untS]) ≤ _
   rw [szI_append, sz_tI]; omega
 ·
  exact ⟨q1, by omega⟩
def PQ (c : Nat) (p : Option Inl) : Prop := ∀ k t d ti a args cites kids, p = some (.mk k t d ti a args cites kids) → t.length ≤ c ∧ nodeB 300 700 [] d ti a args cites ∧ smX 90000 700 kids
theorem PQ.none (c : Nat) : PQ c none := fun _ _ _ _ _ _ _ _ h => by cases h
theorem PQ.big {c : Nat} {k : Int} {t d ti : Bs} {a : DAttr} {args : List Bs} {cites : List DCite} {kids : List Inl} (h : PQ c (some (.mk k t d ti a args cites kids))) (hc : c + 300 ≤ 90000) : smX1 90000 700 (.mk k t d ti a args cites kids) := by
 obtain ⟨h1, h2, h3⟩ := h _ _ _ _ _ _ _ _ rfl
 unfold nodeB at h2
 simp only [List.length_nil] at h2
 unfold smX1 nodeB
 exact ⟨⟨by omega, h2.2⟩, h3⟩
theorem PQ.list {c : Nat} {p : Option Inl} (h : PQ c p) (hc : c + 300 ≤ 90000) : smX 90000 700 p.toList := by
 cases p with
 | none => simp only [Option.toList_none]; unfold smX; trivial
 | some q =>
  obtain ⟨k, t, d, ti, a, args, cites, kids⟩ := q
  simp only [Option.toList_some]
  unfold smX
  exact ⟨h.big hc, by unfold smX; trivial⟩
mutual
theorem mg1_sm : ∀ x : Inl, smX1 300 700 x → 300 * sz1 x + 300 ≤ 90000 → smX1 90000 700 (mg1 x) ∧ sz1 (mg1 x) ≤ sz1 x
 | .mk k t d ti a args cites kids, h, hM => by
  unfold smX1 at h
  simp only [sz1] at hM
  obtain ⟨q1, q2⟩ := mg_sm kids none 0 h.2 (PQ.none 0) (by omega)
  rw [mg1]
  refine ⟨?_, by simp only [sz1, Option.toList_none, szI] at q2 ⊢; omega⟩
  unfold smX1
  exact ⟨nodeB_mono (by decide) (by decide) h.1, q1⟩
theorem mg_sm : ∀ (xs : List Inl) (p : Option Inl) (c : Nat), smX 300 700 xs → PQ c p → c + 300 * szI xs + 300 ≤ 90000 → smX 90000 700 (mg p xs) ∧ szI (mg p xs) ≤ szI p.toList + szI xs
 | [], p, c, _, hp, hM => by
  rw [mg]
  exact ⟨hp.list (by omega), by omega⟩
 | x :: xs, p, c, h, hp, hM => by
  unfold smX at h
  have hs : 1 ≤ sz1 x := by cases x; simp [sz1]
  simp only [szI] at hM ⊢
  obtain ⟨q1, q2⟩ := mg1_sm x h.1 (by omega)
  rw [mg]
  split
  ·
   -- a text
   have hadd : PQ (c + 300) (addT p (mg1 x)) ∧ szI (addT p (mg1 x)).toList ≤ szI p.toList + sz1 x := by
    obtain ⟨k, t, d, ti, a, args, cites, kids⟩ := x
    have h1 := h.1
    unfold smX1 nodeB at h1
    have hk : smX 90000 700 (mg none kids) := by
     rw [mg1] at q1; unfold smX1 at q1; exact q1.2
    have hn : nodeB 300 700 [] d ti a args cites := by
     unfold nodeB
     exact ⟨by simp only [List.length_nil]; omega, h1.1.2⟩
    cases p with
    | none =>
     rw [mg1, addT]
     split
     ·
      exact ⟨PQ.none _, by simp [szI]⟩
     ·
      refine ⟨fun k' t' d' ti' a' args' cites' kids' he => ?_, ?_⟩
      ·
       cases he
       exact ⟨by omega, hn, hk⟩
      ·
       rw [mg1] at q2
       simp only [Option.toList_some, szI]; omega
    | some q =>
     obtain ⟨k2, t2, d2, ti2, a2, args2, cites2, kids2⟩ := q
     obtain ⟨w1, w2, w3⟩ := hp _ _ _ _ _ _ _ _ rfl
     refine ⟨fun k' t' d' ti' a' args' cites' kids' he => ?_, ?_⟩
     ·
      rw [mg1, addT] at he
      simp only [setT, txtI, Option.some.injEq] at he
      cases he
      exact ⟨by rw [List.length_append]; omega, w2, w3⟩
     ·
      rw [addT]
      simp only [setT, Option.toList_some, szI, sz1]; omega
   obtain ⟨q3, q4⟩ := mg_sm xs _ (c + 300) h.2 hadd.1 (by omega)
   exact ⟨q3, by omega⟩
  ·
   obtain ⟨q3, q4⟩ := mg_sm xs none 0 h.2 (PQ.none 0) (by omega)
   refine ⟨smX_append (hp.list (by omega)) (by unfold smX; exact ⟨q1, q3⟩), ?_⟩
   rw [szI_append]
   simp only [szI, Option.toList_none] at q4 ⊢
   omega
end
theorem lineR_sm (k : Int) {line : List Inl} (h : smX 300 600 line) (hs : szI line ≤ 120) : smI (lineR k line) ∧ szI (lineR k line) ≤ 2 * szI line + 1 := by
 obtain ⟨q1, q2⟩ := own_sm k h
 unfold lineR
 split
 ·
  obtain ⟨q3, q4⟩ := mg_sm (ownR k line).1 none 0 q1 (PQ.none 0) (by omega)
  simp only [Option.toList_none, szI] at q4
  exact ⟨smI_of _ (smX_mono (by decide) (by decide) _ q3), by omega⟩
 ·
  exact ⟨smI_of _ (smX_mono (by decide) (by decide) _ q1), q2⟩
theorem ownR_stay {k : Int} {line : List Inl} (h : doneI line = true) (hb : k = 2 → blank (plain line) = false) : (ownR k line).1 = line := by
 have h1 := done_fix line h
 have h2 := fix_same line h1
 unfold ownR
 rw [if_neg]
 ·
  exact h2
 ·
  rintro ⟨hk, hbl⟩
  rw [h2, hb hk] at hbl
  cases hbl
mutual
theorem fixb_sm : ∀ (x : Blk) (bf : Int), smY1 x → szb x ≤ 120 → smB1 (fixb bf x).1 ∧ rdB1 x ∧ rdB1 (fixb bf x).1 ∧ szb (fixb bf x).1 ≤ 2 * szb x
 | .mk k lv inf t d ti a line kids, bf, h, hs => by
  unfold smY1 at h
  obtain ⟨n1, n2, n3, n4, hl, hk⟩ := h
  simp only [szb] at hs
  obtain ⟨q1, q2, q3, q4⟩ := fixB_sm kids (befR k lv bf) hk (by omega)
  obtain ⟨w1, w2⟩ := lineR_sm k hl (by omega)
  obtain ⟨w3, w4⟩ := own_sm k hl
  have w5 : (ownR k (lineR k line)).1 = lineR k line := ownR_stay (lineR_done k line) fun hk => by rw [lineR_plain, ownR_blank hk]
  rw [fixb]
  refine ⟨?_, ?_, ?_, by simp only [szb]; omega⟩
  ·
   unfold smB1; exact ⟨by omega, by omega, by omega, by omega, w1, q1⟩
  ·
   unfold rdB1; exact ⟨⟨smI_of _ (smX_mono (by decide) (by decide) _ w3), by omega⟩, q2⟩
  ·
   unfold rdB1; rw [w5]; exact ⟨⟨w1, by omega⟩, q3⟩
theorem fixB_sm : ∀ (xs : List Blk) (bf : Int), smY xs → szB xs ≤ 120 → smB (fixB bf xs).1 ∧ rdB xs ∧ rdB (fixB bf xs).1 ∧ szB (fixB bf xs).1 ≤ 2 * szB xs
 | [], bf, _, _ => by
  rw [fixB]
  exact ⟨by unfold smB; trivial, by unfold rdB; trivial, by unfold rdB; trivial, by simp [szB]⟩
 | x :: xs, bf, h, hs => by
  unfold smY at h
  simp only [szB] at hs
  obtain ⟨q1, q2, q3, q4⟩ := fixb_sm x bf h.1 (by omega)
  obtain ⟨w1, w2, w3, w4⟩ := fixB_sm xs (fixb bf x).2 h.2 (by omega)
  rw [fixB]
  exact ⟨by unfold smB; exact ⟨q1, w1⟩, by unfold rdB; exact ⟨q2, w2⟩, by unfold rdB; exact ⟨q3, w3⟩, by simp only [szB]; omega⟩
end
theorem rep_sm {bs : List Blk} (h : smY bs) (hs : szB bs ≤ 120) : smB bs ∧ rdB bs ∧ smB (repB bs) ∧ rdB (repB bs) ∧ szB (repB bs) ≤ 240 := by
 obtain ⟨q1, q2, q3, q4⟩ := fixB_sm bs 0 h hs
 exact ⟨smB_of bs h, q2, q1, q3, by unfold repB; omega⟩
theorem repM_len (ps : List (Bs × Bs)) (bs : List Blk) : (repM ps bs).length ≤ ps.length + 2 := by
 unfold repM metaR
 have h1 := fill_up titS (titleR (repB bs)) (fillM langS enS ps)
 have h2 := fill_up langS enS ps
 omega
set_option linter.unusedSimpArgs false
set_option linter.unusedVariables false
set_option maxRecDepth 4000
set_option maxHeartbeats 4000000 in
theorem blocks_fn (n : Nat) : ∀ (v : Value) (xs : List Blk) (b : Nat) (bf : Int) (u : View), szB xs ≤ n → szB xs ≤ 1000 → smB xs → rdB xs → IntOk bf → bf + szB xs ≤ 100000 → BlkS u v xs →
  FnO Tryz.prog 18 [v, .pointer (some ⟨b, 0, none⟩)] u [(some b, .box [.int .i64 bf])] fun r u' l' => l' = [(some b, .box [.int .i64 (fixB bf xs).2])] ∧ BlkS u' r (fixB bf xs).1 ∧ IntOk (fixB bf xs).2 ∧ (fixB bf xs).2 ≤ bf + szB xs := by
 induction n using Nat.strongRecOn with
 | _ n ih =>
 intro v xs b bf u hsz hbig hsm hrd hbi hbB ha
 have hlx := len_szB xs
 obtain ⟨cs, ⟨ad, cap, rfl, h1⟩, hc1⟩ := ha
 have hcl := hc1.len
 refine FnO.intro [.tmp 4] Tryz.func18 rfl rfl rfl ?_
 intro w0 D hw0
 refine wc_pin 1 1000 _ 0 rfl rfl ?_
 refine Zc (Za (ya rfl rfl (Zd (ρ' := [(0, _), (1, _)]) ⟨rfl, rfl, trivial⟩ ?_)))
 refine Zb (Zc (Za (ym rfl rfl (Zq rfl rfl ?_))))
 refine Zaz (caps := []) (ρ' := [(0, _), (1, _)]) [] [611] trivial rfl rfl rfl Tryz.c35 rfl rfl ⟨rfl, rfl, trivial⟩ rfl rfl rfl (FnO.mono (cloneBlkW_fn _ xs.length cs (by omega) hc1.ones u ⟨_, _, rfl, h1⟩) ?_)
 rintro v uO l1 hleO ⟨ado, capo, rfl, rfl⟩ -
 refine ⟨trivial, ?_⟩
 refine ya rfl rfl (Zd (ρ' := [(0, _), (1, _), (5, _)]) ⟨rfl, rfl, rfl, trivial⟩ ?_)
 refine Zb (Zc (Zc (Za (ym rfl rfl (Zf (Zal rfl rfl Tryz.s23 rfl) rfl ?_)))))
 refine ym rfl rfl (Zd (ρ' := [(1, _), (5, _), (12, _), (13, _), (14, _)]) ⟨rfl, rfl, rfl, rfl, rfl, trivial⟩ ?_)
 refine Zb (Zaa ?_)
 refine Zau (fun m ρ σ u' => ∃ i : Nat, i + m = xs.length ∧ VLe uO u' ∧ ∃ (acc : List Value), σ = [(611, (none, .rwv (.slice ado xs.length capo) 39 11 xs.length (acc ++ cs.drop (i * 11)))), (1000, (some b, .box [.int .i64 (fixB bf (xs.take i)).2]))] ∧ ρ = [(1, .p 1000 0), (5, .v (.slice ado xs.length capo)), (12, .v (.slice ad xs.length cap)), (13, .v (.int .i64 xs.length)), (14, .v (.int .i64 i))] ∧ (BlksC u' (fixB bf (xs.take i)).1 acc ∧ IntOk (fixB bf (xs.take i)).2 ∧ (fixB bf (xs.take i)).2 ≤ bf + szB (xs.take i))) (xs.length) ?_ ?_
 ·
  refine ⟨[(1, _), (5, _), (12, _), (13, _), (14, _)], [(611, _), (1000, _)], ⟨rfl, rfl, rfl, rfl, rfl, trivial⟩, ⟨rfl, rfl, trivial⟩, 0, by omega, VLe.refl _, [], (by simp [fixB]), rfl, ?_⟩
  exact ⟨BlksC.nil, hbi, by simp [fixB, szB]⟩
 ·
  rintro m ρ σ u' ⟨i, hi3, hle3, acc, rfl, rfl, ⟨hacc, hXi, hXb⟩⟩
  refine Zc (Za (Zf (Zbh rfl rfl rfl) rfl ?_))
  refine Zd (ρ' := [(1, _), (5, _), (12, _), (13, _), (14, _), (15, _)]) ⟨rfl, rfl, rfl, rfl, rfl, rfl, trivial⟩ ?_
  refine Zb (Zc ?_)
  refine Zn rfl (fun hb3 => ?_) (fun hb3 => ?_)
  ·
   have hlt : i < xs.length := (by have := of_decide_eq_true hb3; omega)
   refine Zs (Zb (Zc (Zaa (Zc ?_))))
   have hle5 : VLe u u' := hleO.trans hle3
   have h1 := h1.mono hle5
   have hc1 := hc1.mono hle5
   obtain ⟨k, lv, inf, t, d, ti, a, line, kids, vc, vp, vl, vk, hg, hcut1, s1, s2, s3, s4, hok⟩ := hc1.at hlt
   have hx := hc1.get i _ hg
   rw [hcut1] at hx
   have oneAll := hx.one
   have hsm1 := smB_get hsm hg
   have hsm2 := hsm1
   unfold smB1 at hsm2
   obtain ⟨n1, n2, n3, n4, hsml, hsmk⟩ := hsm2
   have hrd1 := rdB_get hrd hg
   unfold rdB1 at hrd1
   obtain ⟨hown, hrdk⟩ := hrd1
   obtain ⟨hf1, hf2⟩ := own_fix hown
   have hszk := szB_kids hg
   have hstk := szB_take_get hg
   have hst := szB_take hg
   simp only [szb] at hstk hst
   obtain ⟨hft1, hft2⟩ := fixB_take hg bf
   have hacl := hacc.len
   rw [fixB_len, List.length_take, Nat.min_eq_left (by omega)] at hacl
   have hlv : IntOk lv := by unfold BlkOk at hok; exact hok.2.1
   have hfl := fixI_len line
   have hll := len_szI line
   have hlkk := len_szB kids
   have hXi0 := hXi
   have hbd : (fixB bf (xs.take i)).2 ≤ 100000 := by omega
   generalize hX : (fixB bf (xs.take i)).2 = X at *
   have hfb : fixb X (.mk k lv inf t d ti a line kids) = (.mk k (levR k lv X) inf t d ti a (lineR k line) (fixB (befR k lv X) kids).1, (fixB (befR k lv X) kids).2) := by rw [fixb]
   rw [hfb] at hft1 hft2
   simp only at hft1 hft2
   unfold IntOk at hXi hlv
   have hbfi : IntOk (befR k lv X) := by unfold befR IntOk; split <;> omega
   have hbfb : befR k lv X ≤ X + 1 := by unfold befR; split <;> omega
   have hlvi : IntOk (levR k lv X) := by unfold levR IntOk; split <;> omega
   have hlRl : (lineR k line).length ≤ 1000 := by
    have h1 := len_szI (ownR k line).1
    have h2 := mg_len (ownR k line).1 none
    simp only [Option.toList_none, List.length_nil] at h2
    unfold lineR
    split <;> omega
   refine Za (ym rfl rfl (Zf (Zai rfl Tryz.s23 rfl rfl (by assumption) (by first | rfl | omega) (by omega)) rfl ?_))
   refine Zf (Zag rfl Tryz.k39 rfl (by assumption) (by omega) (by assumption) (vs := [_, _, _, _, _, _, _, _, _, _, _]) rfl rfl rfl rfl) rfl ?_
   refine Zq rfl rfl ?_
   refine Zax trivial Tryz.z39 rfl rfl rfl ?_
   refine ya rfl rfl (Zq rfl rfl ?_)
   refine Zt trivial rfl Tryz.k39 rfl rfl rfl (vs := [_, _, _, _, _, _, _, _, _, _, _]) rfl rfl (by first | rfl | assumption | simp [Value.oneCell', str]) (Nat.le_of_ble_eq_true rfl) rfl ?_
   refine Zd (ρ' := [(1, _), (5, _), (6, _), (7, _), (12, _), (13, _), (14, _)]) ⟨rfl, rfl, rfl, rfl, rfl, rfl, rfl, trivial⟩ ?_
   refine Zb (Zc (Za (Zf (Zi rfl Tryz.f39' rfl (by decide) rfl) rfl ?_)))
   refine Zf (Zi rfl Tryz.f36' rfl (by decide) rfl) rfl ?_
   refine Zf (Zj rfl Tryz.k34 rfl rfl rfl (vs := [_]) rfl rfl rfl) rfl ?_
   refine Zq rfl rfl ?_
   refine Zbb (caps := []) trivial rfl rfl Tryz.c36 rfl (FnP.mono (cloneStr_fn vc a.classes (by omega) u' s1) ?_)
   rintro v uA hle0 ⟨ad1, cap1, rfl, w1⟩ hleA
   refine Zf (Zi rfl Tryz.f39' rfl (by decide) rfl) rfl ?_
   refine Zf (Zi rfl Tryz.f36' rfl (by decide) rfl) rfl ?_
   refine Zq rfl rfl ?_
   refine Zt trivial rfl Tryz.k34 rfl rfl rfl (vs := [_]) rfl rfl (by first | rfl | assumption | simp [Value.oneCell', str]) (Nat.le_of_ble_eq_true rfl) rfl ?_
   refine Zd (ρ' := [(1, _), (5, _), (6, _), (7, _), (12, _), (13, _), (14, _)]) ⟨rfl, rfl, rfl, rfl, rfl, rfl, rfl, trivial⟩ ?_
   refine Zb (Zc (Za (Zf (Zi rfl Tryz.f39' rfl (by decide) rfl) rfl ?_)))
   refine Zf (Zi rfl Tryz.f36' rfl (by decide) rfl) rfl ?_
   refine Zf (Zj rfl Tryz.k22 rfl rfl rfl (vs := [_]) rfl rfl rfl) rfl ?_
   refine Zq rfl rfl ?_
   refine Zbb (caps := []) trivial rfl rfl Tryz.c17 rfl (FnP.mono (clonePr_fn vp a.pairs (by omega) uA (s2.mono hleA)) ?_)
   rintro v uB hle0 ⟨ad2, cap2, rfl, w2⟩ hleB
   refine Zf (Zi rfl Tryz.f39' rfl (by decide) rfl) rfl ?_
   refine Zf (Zi rfl Tryz.f36' rfl (by decide) rfl) rfl ?_
   refine Zq rfl rfl ?_
   refine Zt trivial rfl Tryz.k22 rfl rfl rfl (vs := [_]) rfl rfl (by first | rfl | assumption | simp [Value.oneCell', str]) (Nat.le_of_ble_eq_true rfl) rfl ?_
   refine Zd (ρ' := [(1, _), (5, _), (6, _), (7, _), (12, _), (13, _), (14, _)]) ⟨rfl, rfl, rfl, rfl, rfl, rfl, rfl, trivial⟩ ?_
   refine Zb (Zc (Za (Zf (Zi rfl Tryz.f39' rfl (by decide) rfl) rfl ?_)))
   refine Zf (Zj rfl Tryz.k37 rfl rfl rfl (vs := [_]) rfl rfl rfl) rfl ?_
   refine Zq rfl rfl ?_
   refine Zaz (caps := []) (ρ' := [(1, _), (5, _), (6, _), (7, _), (12, _), (13, _), (14, _)]) [] [634] trivial rfl rfl rfl Tryz.c37 rfl rfl ⟨rfl, rfl, rfl, rfl, rfl, rfl, rfl, trivial⟩ rfl rfl rfl (FnO.mono (line_fn (szI line) vl line uB (Nat.le_refl _) (by omega) hsml ((s3.mono hleA).mono hleB)) ?_)
   rintro v uC l1 hleC ⟨ad5, cap5, c5, rfl, rfl, w5⟩ -
   refine ⟨trivial, ?_⟩
   refine ym rfl rfl (Zf (Zbo rfl rfl rfl) rfl ?_)
   refine Zf (Zbo rfl rfl rfl) rfl ?_
   refine ya rfl rfl (ya rfl rfl (Zd (ρ' := [(1, _), (5, _), (6, _), (7, _), (8, _), (9, _), (12, _), (13, _), (14, _)]) ⟨rfl, rfl, rfl, rfl, rfl, rfl, rfl, rfl, rfl, trivial⟩ ?_))
   refine Zb ?_
   refine Zbv (fun ρ σ uc14 => ∃ (ad6 : Option Addr) (cap6 : Nat) (c6 : List Value), VLe uC uc14 ∧ σ = [(611, (none, .rwv (.slice ado xs.length capo) 39 11 xs.length (acc ++ cs.drop (i * 11)))), (1000, (some b, .box [.int .i64 (befR k lv X)])), (7, (none, .box [.int .i64 k, .int .i64 (levR k lv X), str inf, str t, str d, str ti, str a.id, .slice ad1 a.classes.length cap1, .slice ad2 a.pairs.length cap2, vl, vk])), (634, (none, .rwv (.slice ad6 (ownR k line).1.length cap6) 45 10 (ownR k line).1.length c6))] ∧ ρ = [(1, .p 1000 0), (5, .v (.slice ado xs.length capo)), (6, .v (.int .i64 i)), (7, .p 7 0), (8, .v (.slice ad6 (ownR k line).1.length cap6)), (9, .v (.bool (ownR k line).2)), (12, .v (.slice ad xs.length cap)), (13, .v (.int .i64 xs.length)), (14, .v (.int .i64 i))] ∧ (InlsC uc14 (ownR k line).1 c6)) ?_ ?_
   ·
    refine Zc (Za (Zf (Zi rfl Tryz.f39' rfl (by decide) rfl) rfl ?_))
    refine Zf (Zj rfl Tryz.k3 rfl rfl rfl (vs := [_]) rfl rfl rfl) rfl ?_
    refine Zf (Zay rfl rfl rfl) rfl ?_
    refine Zd (ρ' := [(1, _), (5, _), (6, _), (7, _), (8, _), (9, _), (12, _), (13, _), (14, _), (39, _)]) ⟨rfl, rfl, rfl, rfl, rfl, rfl, rfl, rfl, rfl, rfl, trivial⟩ ?_
    refine Zb ?_
    refine Zn rfl (fun hb8 => ?_) (fun hb8 => ?_)
    ·
     have h8 : k = 2 := of_decide_eq_true hb8
     have hbe : befR k lv X = min lv (X + 1) := if_pos h8
     have hlr : levR k lv X = min lv (X + 1) := if_pos h8
     refine Zc (Zc (Za (ym rfl rfl (Zq rfl rfl ?_))))
     refine do_call_bw (caps := []) 634 trivial rfl rfl Tryz.c20 rfl rfl ?_
     intro ub hleb hslb
     refine FnP.mono (trimmed_fn _ (fixI line).1 hf2 (aI_tx _ hf1) ub (inlS_of' hslb (w5.mono hleb))) ?_
     rintro v u1 hle1 rfl
     refine Zf (Zbg rfl rfl rfl) rfl ?_
     refine Zd (ρ' := [(1, _), (5, _), (6, _), (7, _), (8, _), (9, _), (12, _), (13, _), (14, _), (42, _)]) ⟨rfl, rfl, rfl, rfl, rfl, rfl, rfl, rfl, rfl, rfl, trivial⟩ ?_
     refine Zb ?_
     refine Zn rfl (fun hb9 => ?_) (fun hb9 => ?_)
     ·
      have h9 : blank (plain (fixI line).1) = true := (trim_nil _).1 (of_decide_eq_true hb9)
      have hO : ownR k line = ((fixI line).1 ++ [tI untS], true) := if_pos ⟨h8, h9⟩
      have hOn : (ownR k line).1.length = (fixI line).1.length + 1 := by rw [hO]; simp
      have hO2 : (ownR k line).2 = true := by rw [hO]
      refine Zc (Za (ym rfl rfl (Zf (Zbe rfl Tryz.f45' Tryz.z45 (ps := [(_, _), (_, _)]) rfl (vs := [_, _, _, _, _, _, _, _, _, _]) rfl) rfl ?_)))
      refine Zq rfl rfl ?_
      refine Zac trivial Tryz.s37 Tryz.z45 (ps := [(_, _)]) rfl (xs := [_, _, _, _, _, _, _, _, _, _]) rfl rfl rfl rfl rfl rfl rfl ?_
      refine Zq rfl rfl ?_
      refine Zbd 634 trivial rfl rfl Tryz.s37 Tryz.z45 rfl rfl rfl rfl rfl rfl (by simp [Value.oneCell', str]) (by omega) (by omega) rfl rfl ?_
      intro ad10 cap10
      refine ya rfl rfl (Zd (ρ' := [(1, _), (5, _), (6, _), (7, _), (8, _), (12, _), (13, _), (14, _)]) ⟨rfl, rfl, rfl, rfl, rfl, rfl, rfl, rfl, trivial⟩ ?_)
      refine Zb (Za (ya rfl rfl (Zd (ρ' := [(1, _), (5, _), (6, _), (7, _), (8, _), (9, _), (12, _), (13, _), (14, _)]) ⟨rfl, rfl, rfl, rfl, rfl, rfl, rfl, rfl, rfl, trivial⟩ ?_)))
      refine Zb (Zc ?_)
      refine Zbu Tryz.mixed rfl [(1000, _)] ⟨rfl, trivial⟩ ?_
      refine ra_y (i := 0) rfl (by kernel_rfl) (by kernel_rfl) (by kernel_rfl) (Ze (Ze (Zg (Ze (Ze (Zg (Ze (Zaq)))))))) (Zi rfl Tryz.f39' rfl (by decide) rfl) rfl ?_
      refine ra_y (i := 2) rfl (by kernel_rfl) (by kernel_rfl) (by kernel_rfl) (Ze (Ze (Zg (Ze (Ze (Zg (Ze (Zaq)))))))) (Zbj rfl rfl) rfl ?_
      refine ra_y (i := 3) rfl (by kernel_rfl) (by kernel_rfl) (by kernel_rfl) (Ze (Ze (Zg (Ze (Ze (Zg (Ze (Zaq)))))))) (Zbn rfl rfl) rfl ?_
      refine ra_y (i := 4) rfl (by kernel_rfl) (by kernel_rfl) (by kernel_rfl) (Ze (Ze (Zg (Ze (Ze (Zg (Ze (Zaq)))))))) (Zj rfl Tryz.k3 rfl rfl rfl (vs := [_]) rfl rfl rfl) rfl ?_
      refine ra_y (i := 5) rfl (by kernel_rfl) (by kernel_rfl) (by kernel_rfl) (Ze (Ze (Zg (Ze (Ze (Zg (Ze (Zaq)))))))) (Zas rfl rfl rfl (Zu (by omega))) rfl ?_
      refine ra_do (i := 1) rfl rfl (by kernel_rfl) ?_
      refine Zcf (Zj rfl Tryz.k3 rfl rfl rfl (vs := [_]) rfl rfl rfl) rfl ?_
      refine ra_y (i := 6) rfl (by kernel_rfl) (by kernel_rfl) (by kernel_rfl) (Ze (Ze (Zg (Ze (Ze (Zg (Ze (Zaq)))))))) (y_min (r := min lv (X + 1)) rfl rfl rfl (by split <;> omega)) rfl ?_
      refine ra_y (i := 7) rfl (by kernel_rfl) (by kernel_rfl) (by kernel_rfl) (Ze (Ze (Zg (Ze (Ze (Zg (Ze (Zaq)))))))) (Zi rfl Tryz.f39' rfl (by decide) rfl) rfl ?_
      refine ra_do (i := 8) rfl rfl (by kernel_rfl) ?_
      refine Zt ⟨rfl, trivial⟩ rfl Tryz.k3 rfl rfl rfl (vs := [_]) rfl rfl (by first | rfl | assumption | simp [Value.oneCell', str]) (Nat.le_of_ble_eq_true rfl) rfl ?_
      refine ra_end (by kernel_rfl) (ρ' := [(1, _), (5, _), (6, _), (7, _), (8, _), (9, _), (12, _), (13, _), (14, _)]) ⟨rfl, rfl, rfl, rfl, rfl, rfl, rfl, rfl, rfl, trivial⟩ ?_
      refine Zb (Za (ym rfl rfl (Zf (Zi rfl Tryz.f39' rfl (by decide) rfl) rfl ?_)))
      refine Zf (Zj rfl Tryz.k3 rfl rfl rfl (vs := [_]) rfl rfl rfl) rfl ?_
      refine Zf (Zbn rfl rfl) rfl ?_
      refine Zq rfl rfl ?_
      refine Zt trivial rfl Tryz.k3 rfl rfl rfl (vs := [_]) rfl rfl (by first | rfl | assumption | simp [Value.oneCell', str]) (Nat.le_of_ble_eq_true rfl) rfl ?_
      refine Zd (ρ' := [(1, _), (5, _), (6, _), (7, _), (8, _), (9, _), (12, _), (13, _), (14, _)]) ⟨rfl, rfl, rfl, rfl, rfl, rfl, rfl, rfl, rfl, trivial⟩ ?_
      refine Zae ?_
      first
       | (refine ⟨[(1, _), (5, _), (6, _), (7, _), (8, _), (9, _), (12, _), (13, _), (14, _)], [(611, _), (1000, _), (7, _), (634, _)], ⟨rfl, rfl, rfl, rfl, rfl, rfl, rfl, rfl, rfl, trivial⟩, ⟨rfl, rfl, rfl, rfl, trivial⟩, ad10, cap10, c5 ++ [.int .i64 1, str untS, str [], str [], str [], .slice none 0 0, .slice none 0 0, .slice none 0 0, .slice none 0 0, .slice none 0 0], (VLe.refl _), (by rw [hbe, hlr, hOn]; first | done | rfl), (by rw [hOn, hO2]; first | done | rfl), ?_⟩
          (rw [hO]; exact inlsC_snoc w5 (tI_cells _ untS (by decide))))
       | (refine ⟨[(1, _), (5, _), (6, _), (7, _), (8, _), (9, _), (12, _), (13, _), (14, _)], [(611, _), (1000, _), (7, _), (634, _)], ⟨rfl, rfl, rfl, rfl, rfl, rfl, rfl, rfl, rfl, trivial⟩, ⟨rfl, rfl, rfl, rfl, trivial⟩, ad5, cap5, c5, (VLe.refl _), (by rw [hbe, hlr, hOn]; first | done | rfl), (by rw [hOn, hO2]; first | done | rfl), ?_⟩
          (rw [hO]; exact w5))
     ·
      have h9 : ¬ blank (plain (fixI line).1) = true := fun h => absurd ((trim_nil _).2 h) (of_decide_eq_false hb9)
      have hO : ownR k line = fixI line := if_neg fun h => h9 h.2
      have hOn : (ownR k line).1.length = (fixI line).1.length := by rw [hO]
      have hO2 : (ownR k line).2 = (fixI line).2 := by rw [hO]
      refine Zs (Zb (Zc ?_))
      refine Zbu Tryz.mixed rfl [(1000, _)] ⟨rfl, trivial⟩ ?_
      refine ra_y (i := 0) rfl (by kernel_rfl) (by kernel_rfl) (by kernel_rfl) (Ze (Ze (Zg (Ze (Ze (Zg (Ze (Zaq)))))))) (Zi rfl Tryz.f39' rfl (by decide) rfl) rfl ?_
      refine ra_y (i := 2) rfl (by kernel_rfl) (by kernel_rfl) (by kernel_rfl) (Ze (Ze (Zg (Ze (Ze (Zg (Ze (Zaq)))))))) (Zbj rfl rfl) rfl ?_
      refine ra_y (i := 3) rfl (by kernel_rfl) (by kernel_rfl) (by kernel_rfl) (Ze (Ze (Zg (Ze (Ze (Zg (Ze (Zaq)))))))) (Zbn rfl rfl) rfl ?_
      refine ra_y (i := 4) rfl (by kernel_rfl) (by kernel_rfl) (by kernel_rfl) (Ze (Ze (Zg (Ze (Ze (Zg (Ze (Zaq)))))))) (Zj rfl Tryz.k3 rfl rfl rfl (vs := [_]) rfl rfl rfl) rfl ?_
      refine ra_y (i := 5) rfl (by kernel_rfl) (by kernel_rfl) (by kernel_rfl) (Ze (Ze (Zg (Ze (Ze (Zg (Ze (Zaq)))))))) (Zas rfl rfl rfl (Zu (by omega))) rfl ?_
      refine ra_do (i := 1) rfl rfl (by kernel_rfl) ?_
      refine Zcf (Zj rfl Tryz.k3 rfl rfl rfl (vs := [_]) rfl rfl rfl) rfl ?_
      refine ra_y (i := 6) rfl (by kernel_rfl) (by kernel_rfl) (by kernel_rfl) (Ze (Ze (Zg (Ze (Ze (Zg (Ze (Zaq)))))))) (y_min (r := min lv (X + 1)) rfl rfl rfl (by split <;> omega)) rfl ?_
      refine ra_y (i := 7) rfl (by kernel_rfl) (by kernel_rfl) (by kernel_rfl) (Ze (Ze (Zg (Ze (Ze (Zg (Ze (Zaq)))))))) (Zi rfl Tryz.f39' rfl (by decide) rfl) rfl ?_
      refine ra_do (i := 8) rfl rfl (by kernel_rfl) ?_
      refine Zt ⟨rfl, trivial⟩ rfl Tryz.k3 rfl rfl rfl (vs := [_]) rfl rfl (by first | rfl | assumption | simp [Value.oneCell', str]) (Nat.le_of_ble_eq_true rfl) rfl ?_
      refine ra_end (by kernel_rfl) (ρ' := [(1, _), (5, _), (6, _), (7, _), (8, _), (9, _), (12, _), (13, _), (14, _)]) ⟨rfl, rfl, rfl, rfl, rfl, rfl, rfl, rfl, rfl, trivial⟩ ?_
      refine Zb (Za (ym rfl rfl (Zf (Zi rfl Tryz.f39' rfl (by decide) rfl) rfl ?_)))
      refine Zf (Zj rfl Tryz.k3 rfl rfl rfl (vs := [_]) rfl rfl rfl) rfl ?_
      refine Zf (Zbn rfl rfl) rfl ?_
      refine Zq rfl rfl ?_
      refine Zt trivial rfl Tryz.k3 rfl rfl rfl (vs := [_]) rfl rfl (by first | rfl | assumption | simp [Value.oneCell', str]) (Nat.le_of_ble_eq_true rfl) rfl ?_
      refine Zd (ρ' := [(1, _), (5, _), (6, _), (7, _), (8, _), (9, _), (12, _), (13, _), (14, _)]) ⟨rfl, rfl, rfl, rfl, rfl, rfl, rfl, rfl, rfl, trivial⟩ ?_
      refine Zae ?_
      first
       | (refine ⟨[(1, _), (5, _), (6, _), (7, _), (8, _), (9, _), (12, _), (13, _), (14, _)], [(611, _), (1000, _), (7, _), (634, _)], ⟨rfl, rfl, rfl, rfl, rfl, rfl, rfl, rfl, rfl, trivial⟩, ⟨rfl, rfl, rfl, rfl, trivial⟩, ad10, cap10, c5 ++ [.int .i64 1, str untS, str [], str [], str [], .slice none 0 0, .slice none 0 0, .slice none 0 0, .slice none 0 0, .slice none 0 0], (VLe.refl _), (by rw [hbe, hlr, hOn]; first | done | rfl), (by rw [hOn, hO2]; first | done | rfl), ?_⟩
          (rw [hO]; exact inlsC_snoc w5 (tI_cells _ untS (by decide))))
       | (refine ⟨[(1, _), (5, _), (6, _), (7, _), (8, _), (9, _), (12, _), (13, _), (14, _)], [(611, _), (1000, _), (7, _), (634, _)], ⟨rfl, rfl, rfl, rfl, rfl, rfl, rfl, rfl, rfl, trivial⟩, ⟨rfl, rfl, rfl, rfl, trivial⟩, ad5, cap5, c5, (VLe.refl _), (by rw [hbe, hlr, hOn]; first | done | rfl), (by rw [hOn, hO2]; first | done | rfl), ?_⟩
          (rw [hO]; exact w5))
    ·
     have h8 : ¬ k = 2 := of_decide_eq_false hb8
     have hbe : befR k lv X = X := if_neg h8
     have hlr : levR k lv X = lv := if_neg h8
     have hO : ownR k line = fixI line := if_neg fun h => h8 h.1
     have hOn : (ownR k line).1.length = (fixI line).1.length := by rw [hO]
     have hO2 : (ownR k line).2 = (fixI line).2 := by rw [hO]
     refine Zs (Zae ?_)
     first
      | (refine ⟨[(1, _), (5, _), (6, _), (7, _), (8, _), (9, _), (12, _), (13, _), (14, _)], [(611, _), (1000, _), (7, _), (634, _)], ⟨rfl, rfl, rfl, rfl, rfl, rfl, rfl, rfl, rfl, trivial⟩, ⟨rfl, rfl, rfl, rfl, trivial⟩, ad10, cap10, c5 ++ [.int .i64 1, str untS, str [], str [], str [], .slice none 0 0, .slice none 0 0, .slice none 0 0, .slice none 0 0, .slice none 0 0], (VLe.refl _), (by rw [hbe, hlr, hOn]; first | done | rfl), (by rw [hOn, hO2]; first | done | rfl), ?_⟩
         (rw [hO]; exact inlsC_snoc w5 (tI_cells _ untS (by decide))))
      | (refine ⟨[(1, _), (5, _), (6, _), (7, _), (8, _), (9, _), (12, _), (13, _), (14, _)], [(611, _), (1000, _), (7, _), (634, _)], ⟨rfl, rfl, rfl, rfl, rfl, rfl, rfl, rfl, rfl, trivial⟩, ⟨rfl, rfl, rfl, rfl, trivial⟩, ad5, cap5, c5, (VLe.refl _), (by rw [hbe, hlr, hOn]; first | done | rfl), (by rw [hOn, hO2]; first | done | rfl), ?_⟩
         (rw [hO]; exact w5))
   ·
    rintro ρ σ uc14 ⟨ad6, cap6, c6, hlc14, rfl, rfl, h6⟩
    refine Zbv (fun ρ σ uc16 => ∃ (adl : Option Addr) (capl : Nat), VLe uc14 uc16 ∧ σ = [(611, (none, .rwv (.slice ado xs.length capo) 39 11 xs.length (acc ++ cs.drop (i * 11)))), (1000, (some b, .box [.int .i64 (befR k lv X)])), (7, (none, .box [.int .i64 k, .int .i64 (levR k lv X), str inf, str t, str d, str ti, str a.id, .slice ad1 a.classes.length cap1, .slice ad2 a.pairs.length cap2, vl, vk]))] ∧ ρ = [(1, .p 1000 0), (5, .v (.slice ado xs.length capo)), (6, .v (.int .i64 i)), (7, .p 7 0), (8, .v (.slice adl (lineR k line).length capl)), (12, .v (.slice ad xs.length cap)), (13, .v (.int .i64 xs.length)), (14, .v (.int .i64 i))] ∧ (InlS uc16 (.slice adl (lineR k line).length capl) (lineR k line))) ?_ ?_
    ·
     refine Zc (Za (ym rfl rfl ?_))
     refine rl_freezeW 634 rfl ?_
     intro uk hlek hslk
     obtain ⟨adk, capk, ek, wk⟩ := hslk
     cases ek
     have hown1 : InlS uk (.slice ad6 (ownR k line).1.length cap6) (ownR k line).1 := inlS_of rfl wk (h6.mono hlek)
     refine Zd (ρ' := [(1, _), (5, _), (6, _), (7, _), (8, _), (12, _), (13, _), (14, _), (59, _)]) ⟨rfl, rfl, rfl, rfl, rfl, rfl, rfl, rfl, rfl, trivial⟩ ?_
     refine Zb ?_
     refine Zn rfl (fun hb14 => ?_) (fun hb14 => ?_)
     ·
      have h14 : (ownR k line).2 = true := hb14
      have hlR : lineR k line = mg none (ownR k line).1 := if_pos h14
      refine Za (ym rfl rfl (Zq rfl rfl ?_))
      refine Zbb (caps := []) trivial rfl rfl Tryz.c38 rfl (FnP.mono (merge_fn (szI (ownR k line).1) _ _ uk (Nat.le_refl _) hown.2 hown.1 hown1) ?_)
      rintro v uM hle0 ⟨mcs, ⟨adm, capm, rfl, m1⟩, m2⟩ hleM
      refine ya rfl rfl (Zd (ρ' := [(1, _), (5, _), (6, _), (7, _), (8, _), (12, _), (13, _), (14, _)]) ⟨rfl, rfl, rfl, rfl, rfl, rfl, rfl, rfl, trivial⟩ ?_)
      refine Zae ?_
      first
       | (refine ⟨[(1, _), (5, _), (6, _), (7, _), (8, _), (12, _), (13, _), (14, _)], [(611, _), (1000, _), (7, _)], ⟨rfl, rfl, rfl, rfl, rfl, rfl, rfl, rfl, trivial⟩, ⟨rfl, rfl, rfl, trivial⟩, adm, capm, (hlek.trans hleM), rfl, (by rw [hlR]; first | done | rfl), ?_⟩
          (rw [hlR]; exact ⟨mcs, ⟨_, _, rfl, m1⟩, m2⟩))
       | (refine ⟨[(1, _), (5, _), (6, _), (7, _), (8, _), (12, _), (13, _), (14, _)], [(611, _), (1000, _), (7, _)], ⟨rfl, rfl, rfl, rfl, rfl, rfl, rfl, rfl, trivial⟩, ⟨rfl, rfl, rfl, trivial⟩, ad6, cap6, hlek, rfl, (by rw [hlR]; first | done | rfl), ?_⟩
          (rw [hlR]; exact hown1))
     ·
      have h14 : (ownR k line).2 = false := hb14
      have hlR : lineR k line = (ownR k line).1 := if_neg (by rw [h14]; simp)
      refine Zs (Zae ?_)
      first
       | (refine ⟨[(1, _), (5, _), (6, _), (7, _), (8, _), (12, _), (13, _), (14, _)], [(611, _), (1000, _), (7, _)], ⟨rfl, rfl, rfl, rfl, rfl, rfl, rfl, rfl, trivial⟩, ⟨rfl, rfl, rfl, trivial⟩, adm, capm, (hlek.trans hleM), rfl, (by rw [hlR]; first | done | rfl), ?_⟩
          (rw [hlR]; exact ⟨mcs, ⟨_, _, rfl, m1⟩, m2⟩))
       | (refine ⟨[(1, _), (5, _), (6, _), (7, _), (8, _), (12, _), (13, _), (14, _)], [(611, _), (1000, _), (7, _)], ⟨rfl, rfl, rfl, rfl, rfl, rfl, rfl, rfl, trivial⟩, ⟨rfl, rfl, rfl, trivial⟩, ad6, cap6, hlek, rfl, (by rw [hlR]; first | done | rfl), ?_⟩
          (rw [hlR]; exact hown1))
    ·
     rintro ρ σ uc16 ⟨adl, capl, hlc16, rfl, rfl, hln⟩
     refine Zc (Za (ym rfl rfl (Zf (Zi rfl Tryz.f39' rfl (by decide) rfl) rfl ?_)))
     refine Zq rfl rfl ?_
     refine Zt trivial rfl Tryz.k37 rfl rfl rfl (vs := [_]) rfl rfl (by first | rfl | assumption | simp [Value.oneCell', str]) (Nat.le_of_ble_eq_true rfl) rfl ?_
     refine Zd (ρ' := [(1, _), (5, _), (6, _), (7, _), (12, _), (13, _), (14, _)]) ⟨rfl, rfl, rfl, rfl, rfl, rfl, rfl, trivial⟩ ?_
     refine Zb (Zc ?_)
     have hlN : VLe u' uc16 := hleA.trans (hleB.trans (hleC.trans (hlc14.trans hlc16)))
     refine Za (Zf (Zi rfl Tryz.f39' rfl (by decide) rfl) rfl ?_)
     refine Zf (Zj rfl Tryz.k23 rfl rfl rfl (vs := [_]) rfl rfl rfl) rfl ?_
     refine ym rfl rfl (Zq rfl rfl ?_)
     refine Zaz (caps := []) (ρ' := [(1, _), (5, _), (6, _), (7, _), (12, _), (13, _), (14, _)]) [1000] [] trivial rfl rfl rfl Tryz.c18 rfl rfl ⟨rfl, rfl, rfl, rfl, rfl, rfl, rfl, trivial⟩ rfl rfl rfl (FnO.mono (ih (szB kids) (by omega) vk kids b (befR k lv X) uc16 (Nat.le_refl _) (by omega) hsmk hrdk hbfi (by omega) (s4.mono hlN)) ?_)
     rintro v uK l1 hleK ⟨rfl, ⟨kcs, ⟨kad, kcap, rfl, hk1⟩, hk2⟩, hki, hkb⟩ -
     refine ⟨⟨fun _ h => h, trivial⟩, ?_⟩
     refine Zf (Zi rfl Tryz.f39' rfl (by decide) rfl) rfl ?_
     refine Zq rfl rfl ?_
     refine Zt trivial rfl Tryz.k23 rfl rfl rfl (vs := [_]) rfl rfl (by first | rfl | assumption | simp [Value.oneCell', str]) (Nat.le_of_ble_eq_true rfl) rfl ?_
     refine Zd (ρ' := [(1, _), (5, _), (6, _), (7, _), (12, _), (13, _), (14, _)]) ⟨rfl, rfl, rfl, rfl, rfl, rfl, rfl, trivial⟩ ?_
     refine Zb (Za (ym rfl rfl (ym rfl rfl (Zf (Zj rfl Tryz.k39 rfl rfl rfl (vs := [_, _, _, _, _, _, _, _, _, _, _]) rfl rfl rfl) rfl ?_))))
     refine Zf (Zbf 611 rfl Tryz.s23 rfl rfl rfl (j := i) rfl hlt) rfl ?_
     refine Zq rfl rfl ?_
     refine Zar trivial rfl Tryz.k39 rfl rfl rfl (vs := [_, _, _, _, _, _, _, _, _, _, _]) rfl rfl rfl (by rw [List.length_append, List.length_drop, hacl, hcl]; omega) (row_step hacl rfl hcl hlt) ?_
     refine Zd (ρ' := [(1, _), (5, _), (12, _), (13, _), (14, _)]) ⟨rfl, rfl, rfl, rfl, rfl, trivial⟩ ?_
     refine Zaf (Zb (Za (Zf (Zas rfl rfl rfl (Zu (by omega))) rfl ?_)))
     refine ym rfl rfl (Zd (ρ' := [(1, _), (5, _), (12, _), (13, _), (14, _)]) ⟨rfl, rfl, rfl, rfl, rfl, trivial⟩ ?_)
     refine Zae ?_
     refine ⟨m - 1, [(1, _), (5, _), (12, _), (13, _), (14, _)], [(611, _), (1000, _)], by omega, ⟨rfl, rfl, rfl, rfl, rfl, trivial⟩, ⟨rfl, rfl, trivial⟩, i + 1, by omega, (hle3.trans (hlN.trans hleK)), _, (by rw [hft2]; first | done | rfl), rfl, ?_⟩
     rw [hft1, hft2]
     refine ⟨?_, hki, by omega⟩
     refine (hacc.mono (hlN.trans hleK)).append (BlksC.one ?_)
     have hok2 := hok
     unfold BlkOk at hok2
     have hfl2 := fixB_len kids (befR k lv X)
     exact BlkC.mk' (a := a) ⟨_, _, rfl, w1.mono ((hleB.trans (hleC.trans (hlc14.trans hlc16))).trans hleK)⟩ ⟨_, _, rfl, w2.mono ((hleC.trans (hlc14.trans hlc16)).trans hleK)⟩ (hln.mono hleK) ⟨kcs, ⟨_, _, rfl, hk1⟩, hk2⟩
      (by unfold BlkOk; exact ⟨hok2.1, hlvi, hok2.2.2.1, hok2.2.2.2.1, hok2.2.2.2.2.1, hok2.2.2.2.2.2.1, hok2.2.2.2.2.2.2.1, by omega, by omega⟩)
  ·
   have hge := of_decide_eq_false hb3
   refine Zat ?_
   refine Zp (Zp ?_)
   refine Zah ?_
   refine Zb (Zc (Za ?_))
   refine rl_freezeW 611 rfl ?_
   intro uk hlek hslk
   refine ym rfl rfl (ya rfl rfl (Zd (ρ' := [(4, _)]) ⟨rfl, trivial⟩ ?_))
   refine Zb (Zv ?_)
   refine finO1 [1000] (.tmp rfl) rfl rfl ?_
   have hd : cs.drop (i * 11) = [] := List.drop_eq_nil_of_le (by omega)
   rw [List.take_of_length_le (by omega)] at hacc hXi hXb ⊢
   rw [hd, List.append_nil] at hslk
   exact ⟨rfl, blkS_of' hslk (hacc.mono hlek), hXi, hXb⟩
set_option maxHeartbeats 4000000 in
theorem repair_fn (vm vb : Value) (ps : List (Bs × Bs)) (bs : List Blk) (u : View) (hl : ps.length ≤ 100000) (hbig : szB bs ≤ 1000) (hsm : smB bs) (hrd : rdB bs) (hbig2 : szB (repB bs) ≤ 1000) (hsm2 : smB (repB bs)) (hm : PrS u vm ps) (ha : BlkS u vb bs) :
  FnP Tryz.prog 7 [.agg #[vm, vb]] u fun r u' => ∃ vm' vb', r = .agg #[vm', vb'] ∧ PrS u' vm' (repM ps bs) ∧ BlkS u' vb' (repB bs) := by
 have ham := hm
 have hab := ha
 obtain ⟨adm, capm, rfl, hm1⟩ := hm
 obtain ⟨bcs, ⟨adb, capb, rfl, hb1⟩, hb2⟩ := ha
 refine FnP.intro [.cell 2 25] Tryz.func7 rfl rfl rfl ?_
 intro w0 D hw0
 refine Zc (Za (Zq rfl rfl ?_))
 refine Zbl trivial rfl (cs := [_, _]) rfl rfl rfl rfl ?_
 refine Zq rfl rfl ?_
 refine Zax trivial Tryz.z25 rfl rfl rfl ?_
 refine Zd (ρ' := [(1, _), (2, _)]) ⟨rfl, rfl, trivial⟩ ?_
 refine Zb (Zc (Za (Zq rfl rfl ?_)))
 refine Zax trivial Tryz.z3 rfl rfl rfl ?_
 refine Zq rfl rfl ?_
 refine Zt trivial rfl Tryz.k3 rfl rfl rfl (vs := [_]) rfl rfl (by first | rfl | assumption | simp [Value.oneCell', str]) (Nat.le_of_ble_eq_true rfl) rfl ?_
 refine rl_name 3 rfl ⟨3, _, .inl rfl⟩ ?_
 intro b3
 refine Zd (ρ' := [(1, _), (2, _), (3, _)]) ⟨rfl, rfl, rfl, trivial⟩ ?_
 refine Zb ?_
 refine Zbv (fun ρ σ uc3 => ∃ (adp : Option Addr) (capp : Nat) (adr : Option Addr) (capr : Nat), VLe u uc3 ∧ σ = [(2, (none, .box [.slice none 0 0, .slice none 0 0])), (4, (none, .box [.slice adp ps.length capp, .slice adr (repB bs).length capr])), (609, (none, .rwv (.slice adp ps.length capp) 49 2 ps.length (pairsC ps)))] ∧ ρ = [(2, .p 2 0), (4, .p 4 0)] ∧ (BlkS uc3 (.slice adr (repB bs).length capr) (repB bs))) ?_ ?_
 ·
  refine Zbu Tryz.mixed rfl [(1, _)] ⟨rfl, trivial⟩ ?_
  refine ra_y (i := 0) rfl (by kernel_rfl) (by kernel_rfl) (by kernel_rfl) (Ze (Zam)) (Zi rfl Tryz.f25' rfl (by decide) rfl) rfl ?_
  refine ra_y (i := 1) rfl (by kernel_rfl) (by kernel_rfl) (by kernel_rfl) (Ze (Zam)) (Zj rfl Tryz.k22 rfl rfl rfl (vs := [_]) rfl rfl rfl) rfl ?_
  refine ra_y (i := 3) rfl (by kernel_rfl) (by kernel_rfl) (by kernel_rfl) (Ze (Zam)) (Zi rfl Tryz.f25' rfl (by decide) rfl) rfl ?_
  refine ra_y (i := 4) rfl (by kernel_rfl) (by kernel_rfl) (by kernel_rfl) (Ze (Zam)) (Zj rfl Tryz.k23 rfl rfl rfl (vs := [_]) rfl rfl rfl) rfl ?_
  refine ra_all (is := [2, 7]) (by kernel_rfl) rfl ?_
  refine raall_cons rfl rfl ?_ ?_
  ·
   refine Zaz (caps := []) (ρ' := [(2, _), (3, _), (11, _)]) [] [609] ⟨rfl, trivial⟩ rfl rfl rfl Tryz.c17 rfl rfl ⟨rfl, rfl, rfl, trivial⟩ rfl rfl rfl (FnO.mono (clonePrW_fn _ ps.length (pairsC ps) (by omega) (oneCell_pairs _) _ ham) ?_)
   rintro v uP l1 hleP ⟨adp, capp, rfl, rfl⟩ -
   refine ⟨trivial, ?_⟩
   refine ra_all (is := [5, 7]) (by kernel_rfl) rfl ?_
   refine raall_cons rfl rfl ?_ ?_
   ·
    refine Zaz (caps := []) (ρ' := [(2, _), (9, _)]) [3] [] ⟨rfl, trivial⟩ rfl rfl rfl Tryz.c18 rfl rfl ⟨rfl, rfl, trivial⟩ rfl rfl rfl (FnO.mono (blocks_fn (szB bs) _ bs b3 0 _ (Nat.le_refl _) hbig hsm hrd ⟨by decide, by decide⟩ (by omega) (BlkS.mono hab hleP)) ?_)
    rintro v uB l1 hleB ⟨rfl, ⟨rcs, ⟨adr, capr, rfl, hr1⟩, hr2⟩, _, _⟩ -
    refine ⟨⟨fun _ h => h, trivial⟩, ?_⟩
    refine ra_y (i := 6) rfl (by kernel_rfl) (by kernel_rfl) (by kernel_rfl) (Ze (Zam)) (Zbe rfl Tryz.f25' Tryz.z25 (ps := [(_, _), (_, _)]) rfl (vs := [_, _]) rfl) rfl ?_
    refine ra_do (i := 7) rfl rfl (by kernel_rfl) ?_
    refine Zax ⟨rfl, trivial⟩ Tryz.z25 rfl rfl rfl ?_
    refine ra_do (i := 8) rfl rfl (by kernel_rfl) ?_
    refine Zt ⟨rfl, trivial⟩ rfl Tryz.k25 rfl rfl rfl (vs := [_, _]) rfl rfl (by first | rfl | assumption | simp [Value.oneCell', str]) (Nat.le_of_ble_eq_true rfl) rfl ?_
    refine ra_end (by kernel_rfl) (ρ' := [(2, _), (4, _)]) ⟨rfl, rfl, trivial⟩ ?_
    refine Zae ?_
    refine ⟨[(2, _), (4, _)], [(2, _), (4, _), (609, _)], ⟨rfl, rfl, trivial⟩, ⟨rfl, rfl, rfl, trivial⟩, adp, capp, adr, capr, (hleP.trans hleB), rfl, rfl, ?_⟩
    exact ⟨rcs, ⟨_, _, rfl, hr1⟩, hr2⟩
   refine raall_cons rfl rfl ?_ ?_
   ·
    refine Zax ⟨rfl, trivial⟩ Tryz.z25 rfl rfl rfl ?_
    refine ra_name 3 rfl ⟨3, _, .inl rfl⟩ ?_
    intro b3
    refine ra_do (i := 5) rfl rfl (by kernel_rfl) ?_
    refine Zaz (caps := []) (ρ' := [(2, _), (4, _), (9, _)]) [3] [] ⟨rfl, trivial⟩ rfl rfl rfl Tryz.c18 rfl rfl ⟨rfl, rfl, rfl, trivial⟩ rfl rfl rfl (FnO.mono (blocks_fn (szB bs) _ bs b3 0 _ (Nat.le_refl _) hbig hsm hrd ⟨by decide, by decide⟩ (by omega) (BlkS.mono hab hleP)) ?_)
    rintro v uB l1 hleB ⟨rfl, ⟨rcs, ⟨adr, capr, rfl, hr1⟩, hr2⟩, _, _⟩ -
    refine ⟨⟨fun _ h => h, trivial⟩, ?_⟩
    refine ra_y (i := 6) rfl (by kernel_rfl) (by kernel_rfl) (by kernel_rfl) (Ze (Zam)) (Zbe rfl Tryz.f25' Tryz.z25 (ps := [(_, _), (_, _)]) rfl (vs := [_, _]) rfl) rfl ?_
    refine ra_do (i := 8) rfl rfl (by kernel_rfl) ?_
    refine Zt ⟨rfl, trivial⟩ rfl Tryz.k25 rfl rfl rfl (vs := [_, _]) rfl rfl (by first | rfl | assumption | simp [Value.oneCell', str]) (Nat.le_of_ble_eq_true rfl) rfl ?_
    refine ra_end (by kernel_rfl) (ρ' := [(2, _), (4, _)]) ⟨rfl, rfl, trivial⟩ ?_
    refine Zae ?_
    refine ⟨[(2, _), (4, _)], [(2, _), (4, _), (609, _)], ⟨rfl, rfl, trivial⟩, ⟨rfl, rfl, rfl, trivial⟩, adp, capp, adr, capr, (hleP.trans hleB), rfl, rfl, ?_⟩
    exact ⟨rcs, ⟨_, _, rfl, hr1⟩, hr2⟩
   exact raall_nil
  refine raall_cons rfl rfl ?_ ?_
  ·
   refine Zax ⟨rfl, trivial⟩ Tryz.z25 rfl rfl rfl ?_
   refine ra_do (i := 2) rfl rfl (by kernel_rfl) ?_
   refine Zaz (caps := []) (ρ' := [(2, _), (3, _), (4, _), (11, _)]) [] [609] ⟨rfl, trivial⟩ rfl rfl rfl Tryz.c17 rfl rfl ⟨rfl, rfl, rfl, rfl, trivial⟩ rfl rfl rfl (FnO.mono (clonePrW_fn _ ps.length (pairsC ps) (by omega) (oneCell_pairs _) _ ham) ?_)
   rintro v uP l1 hleP ⟨adp, capp, rfl, rfl⟩ -
   refine ⟨trivial, ?_⟩
   refine ra_name 3 rfl ⟨3, _, .inl rfl⟩ ?_
   intro b3
   refine ra_do (i := 5) rfl rfl (by kernel_rfl) ?_
   refine Zaz (caps := []) (ρ' := [(2, _), (4, _), (9, _)]) [3] [] ⟨rfl, trivial⟩ rfl rfl rfl Tryz.c18 rfl rfl ⟨rfl, rfl, rfl, trivial⟩ rfl rfl rfl (FnO.mono (blocks_fn (szB bs) _ bs b3 0 _ (Nat.le_refl _) hbig hsm hrd ⟨by decide, by decide⟩ (by omega) (BlkS.mono hab hleP)) ?_)
   rintro v uB l1 hleB ⟨rfl, ⟨rcs, ⟨adr, capr, rfl, hr1⟩, hr2⟩, _, _⟩ -
   refine ⟨⟨fun _ h => h, trivial⟩, ?_⟩
   refine ra_y (i := 6) rfl (by kernel_rfl) (by kernel_rfl) (by kernel_rfl) (Ze (Zam)) (Zbe rfl Tryz.f25' Tryz.z25 (ps := [(_, _), (_, _)]) rfl (vs := [_, _]) rfl) rfl ?_
   refine ra_do (i := 8) rfl rfl (by kernel_rfl) ?_
   refine Zt ⟨rfl, trivial⟩ rfl Tryz.k25 rfl rfl rfl (vs := [_, _]) rfl rfl (by first | rfl | assumption | simp [Value.oneCell', str]) (Nat.le_of_ble_eq_true rfl) rfl ?_
   refine ra_end (by kernel_rfl) (ρ' := [(2, _), (4, _)]) ⟨rfl, rfl, trivial⟩ ?_
   refine Zae ?_
   refine ⟨[(2, _), (4, _)], [(2, _), (4, _), (609, _)], ⟨rfl, rfl, trivial⟩, ⟨rfl, rfl, rfl, trivial⟩, adp, capp, adr, capr, (hleP.trans hleB), rfl, rfl, ?_⟩
   exact ⟨rcs, ⟨_, _, rfl, hr1⟩, hr2⟩
  exact raall_nil
 ·
  rintro ρ σ uc3 ⟨adp, capp, adr, capr, hlc3, rfl, rfl, hrB⟩
  refine Zc (Za (ya rfl rfl (Zd (ρ' := [(2, _), (4, _), (5, _)]) ⟨rfl, rfl, rfl, trivial⟩ ?_)))
  refine Zb ?_
  refine Zbv (fun ρ σ uc7 => VLe uc3 uc7 ∧ σ = [(2, (none, .box [.slice none 0 0, .slice none 0 0])), (4, (none, .box [.slice adp ps.length capp, .slice adr (repB bs).length capr])), (609, (none, .rwv (.slice adp ps.length capp) 49 2 ps.length (pairsC ps)))] ∧ ρ = [(2, .p 2 0), (4, .p 4 0), (5, .v (str (titleR (repB bs))))] ∧ (True)) ?_ ?_
  ·
   refine Zc (Za (Zf (Zj rfl Tryz.k25 rfl rfl rfl (vs := [_, _]) rfl rfl rfl) rfl ?_))
   refine Zq rfl rfl ?_
   refine Zbb (caps := []) trivial rfl rfl Tryz.c19 rfl (FnP.mono (headings_fn _ _ (repB bs) uc3 hbig2 hrB) ?_)
   rintro v uH hle0 ⟨hcs, ⟨had, hcap, rfl, hh1⟩, hh2⟩ hleH
   refine ya rfl rfl (Zd (ρ' := [(2, _), (4, _), (5, _), (6, _)]) ⟨rfl, rfl, rfl, rfl, trivial⟩ ?_)
   refine Zb (Zc (Za (ym rfl rfl (Zf (Zal rfl rfl Tryz.s23 rfl) rfl ?_))))
   refine Zf (Zcd rfl rfl rfl) rfl ?_
   refine Zd (ρ' := [(2, _), (4, _), (5, _), (6, _), (18, _)]) ⟨rfl, rfl, rfl, rfl, rfl, trivial⟩ ?_
   refine Zb ?_
   refine Zn rfl (fun hb5 => ?_) (fun hb5 => ?_)
   ·
    have hlt : 0 < (headsL (listB (repB bs))).length := by have := of_decide_eq_true hb5; omega
    obtain ⟨k, lv, inf, t, d, ti, a, line, kids, vc, vp, vl, vk, hg, hcut1, s1, s2, s3, s4, hok⟩ := hh2.at hlt
    have oneAll := (hh2.get 0 _ hg).one
    rw [hcut1] at oneAll
    obtain ⟨q1, q2⟩ := headsL_ok hsm2 (List.mem_of_getElem? hg)
    unfold smB1 at q1
    simp only [szb] at q2
    have htt : titleR (repB bs) = trim (plain line) := by
     unfold titleR
     cases hh : headsL (listB (repB bs)) with
     | nil => rw [hh] at hlt; cases hlt
     | cons x r =>
      rw [hh] at hg
      obtain rfl := Option.some.inj hg
      rfl
    refine Za (ym rfl rfl (Zf (Zai rfl Tryz.s23 rfl rfl (by assumption) (j := 0) rfl (by omega)) rfl ?_))
    refine Zf (Zap rfl Tryz.f39' rfl (by decide) rfl) rfl ?_
    refine Zf (Zag rfl Tryz.k37 rfl (by assumption) (by omega) (by assumption) (vs := [_]) rfl rfl rfl rfl) rfl ?_
    refine Zq rfl rfl ?_
    refine Zw (caps := []) trivial rfl rfl Tryz.c20 rfl (FnP.mono (trimmed_fn vl line (by omega) (aI_tx _ q1.2.2.2.2.1) uH s3) ?_)
    rintro v u1 hle1 rfl
    refine ya rfl rfl (Zd (ρ' := [(2, _), (4, _), (5, _)]) ⟨rfl, rfl, rfl, trivial⟩ ?_)
    refine Zae ?_
    refine ⟨[(2, _), (4, _), (5, _)], [(2, _), (4, _), (609, _)], ⟨rfl, rfl, rfl, trivial⟩, ⟨rfl, rfl, rfl, trivial⟩, hleH, rfl, (by rw [htt]; first | done | rfl), ?_⟩
    trivial
   ·
    have hge := of_decide_eq_false hb5
    have htt : titleR (repB bs) = untS := by
     unfold titleR
     cases hh : headsL (listB (repB bs)) with
     | nil => rfl
     | cons x r => rw [hh] at hge; exact (hge (by rw [List.length_cons]; omega)).elim
    refine Zs (Zae ?_)
    refine ⟨[(2, _), (4, _), (5, _)], [(2, _), (4, _), (609, _)], ⟨rfl, rfl, rfl, trivial⟩, ⟨rfl, rfl, rfl, trivial⟩, hleH, rfl, (by rw [htt]; first | done | rfl), ?_⟩
    trivial
  ·
   rintro ρ σ uc7 ⟨hlc7, rfl, rfl, hc7⟩
   refine Zc (Za (Zf (Zi rfl Tryz.f25' rfl (by decide) rfl) rfl ?_))
   refine Zf (Zj rfl Tryz.k22 rfl rfl rfl (vs := [_]) rfl rfl rfl) rfl ?_
   refine Zq rfl rfl ?_
   refine Zaz (caps := []) (ρ' := [(2, _), (4, _), (5, _)]) [609] [] trivial rfl rfl rfl Tryz.c21 rfl rfl ⟨rfl, rfl, rfl, trivial⟩ rfl rfl rfl (FnO.mono (fill_fn langS enS _ ps (by omega) _) ?_)
   rintro v uL l1 hleL rfl -
   refine ⟨⟨fun _ h => h, trivial⟩, ?_⟩
   refine rl_shape 609 rfl ?_
   rintro adx capx rfl
   refine Zf (Zi rfl Tryz.f25' rfl (by decide) rfl) rfl ?_
   refine Zq rfl rfl ?_
   refine Zt trivial rfl Tryz.k22 rfl rfl rfl (vs := [_]) rfl rfl (by first | rfl | assumption | simp [Value.oneCell', str]) (Nat.le_of_ble_eq_true rfl) rfl ?_
   refine Zd (ρ' := [(2, _), (4, _), (5, _)]) ⟨rfl, rfl, rfl, trivial⟩ ?_
   refine Zb (Zc (Za (Zf (Zi rfl Tryz.f25' rfl (by decide) rfl) rfl ?_)))
   refine Zf (Zj rfl Tryz.k22 rfl rfl rfl (vs := [_]) rfl rfl rfl) rfl ?_
   refine ym rfl rfl (Zq rfl rfl ?_)
   refine Zaz (caps := []) (ρ' := [(2, _), (4, _)]) [609] [] trivial rfl rfl rfl Tryz.c21 rfl rfl ⟨rfl, rfl, trivial⟩ rfl rfl rfl (FnO.mono (fill_fn titS (titleR (repB bs)) _ (fillM langS enS ps) (by have := fill_up langS enS ps; omega) _) ?_)
   rintro v uT l1 hleT rfl -
   refine ⟨⟨fun _ h => h, trivial⟩, ?_⟩
   refine rl_shape 609 rfl ?_
   rintro ady capy rfl
   refine Zf (Zi rfl Tryz.f25' rfl (by decide) rfl) rfl ?_
   refine Zq rfl rfl ?_
   refine Zt trivial rfl Tryz.k22 rfl rfl rfl (vs := [_]) rfl rfl (by first | rfl | assumption | simp [Value.oneCell', str]) (Nat.le_of_ble_eq_true rfl) rfl ?_
   refine Zd (ρ' := [(2, _), (4, _)]) ⟨rfl, rfl, trivial⟩ ?_
   refine Zb (Zc (Za ?_))
   refine rl_freezeW 609 rfl ?_
   intro uk hlek hslk
   refine Zf (Zj rfl Tryz.k25 rfl rfl rfl (vs := [_, _]) rfl rfl rfl) rfl ?_
   refine Zq rfl rfl ?_
   refine Zt trivial rfl Tryz.k25 rfl rfl rfl (vs := [_, _]) rfl rfl (by first | rfl | assumption | simp [Value.oneCell', str]) (Nat.le_of_ble_eq_true rfl) rfl ?_
   refine Zd (ρ' := [(2, _)]) ⟨rfl, trivial⟩ ?_
   refine Zb (Zv ?_)
   refine Zav (.cell rfl rfl Tryz.k25 (cs := _) (vs := [_, _]) rfl rfl rfl) ?_
   exact ⟨_, _, rfl, hslk, ((hrB.mono hlc7).mono hleL).mono hleT |>.mono hlek⟩
def hdW (lv : Int) (s : Bs) : Blk := .mk 2 lv [] [] [] [] ⟨[], [], []⟩ [tI s] []
def lkW : Inl := .mk 9 [] [120] [] ⟨[], [], []⟩ [] [] []
def lkR : Inl := .mk 9 [] [120] [] ⟨[], [], []⟩ [] [] [tI [120]]
def paW (x : Inl) : Blk := .mk 1 0 [] [] [] [] ⟨[], [], []⟩ [x] []
def d3W : List Blk := [hdW 1 [65], hdW 3 [66], paW lkW]
def r3W : List Blk := [hdW 1 [65], hdW 2 [66], paW lkR]
def metaW : List (Bs × Bs) := [(langS, enS), (titS, [84])]
theorem F_d1 : faultsL metaW [hdW 2 [65]] = [(levS, [65])] := by rfl
theorem F_nil : faultsL [] [] = [(langS, langS), (titS, titS)] := by rfl
theorem R_d3 : repB d3W = r3W := by rfl
theorem M_d3 : repM [] d3W = [(langS, enS), (titS, [65])] := by rfl
theorem sm_hd (lv : Int) (s : Bs) (h : s.length ≤ 1000) : smB1 (hdW lv s) := by
 simp [hdW, tI, smB1, smI, smI1, NodeSm, longN, smB]
 omega
theorem sm_d3 : smB d3W ∧ szB d3W ≤ 1000 ∧ rdB d3W := by
 refine ⟨?_, by decide, ?_⟩
 ·
  simp [d3W, hdW, paW, lkW, tI, smB, smB1, smI, smI1, NodeSm, longN]
 ·
  have e1 : ownR 2 [tI [65]] = ([tI [65]], false) := by rfl
  have e2 : ownR 2 [tI [66]] = ([tI [66]], false) := by rfl
  have e3 : ownR 1 [lkW] = ([lkR], true) := by rfl
  simp only [d3W, hdW, paW, rdB, rdB1, e1, e2, e3]
  simp [tI, lkR, smI, smI1, NodeSm, longN, szI, sz1]
theorem sm_r3 : smB r3W ∧ szB r3W ≤ 1000 := by
 refine ⟨?_, by decide⟩
 simp [r3W, hdW, paW, lkR, tI, smB, smB1, smI, smI1, NodeSm, longN]
theorem attrOkZ : AttrOk ⟨[], [], []⟩ := ⟨by decide, ⟨by decide, by simp⟩, ⟨by decide, by simp⟩⟩
theorem blk_ok1 (k lv : Int) (line : List Inl) (hk : IntOk k) (hl : IntOk lv) (hn : line.length ≤ 1000) : BlkOk (.mk k lv [] [] [] [] ⟨[], [], []⟩ line []) :=
 ⟨hk, hl, by decide, by decide, by decide, by decide, attrOkZ, by omega, by decide⟩
theorem nilBl (u : View) : BlkS u (.slice none 0 0) [] := ⟨[], nilSl u 11, BlksC.nil⟩
theorem hd_C {u : View} {lv : Int} {s : Bs} {vl : Value} (hl : IntOk lv) (h : InlS u vl [tI s]) : BlkC u (hdW lv s) [.int .i64 2, .int .i64 lv, str [], str [], str [], str [], str [], .slice none 0 0, .slice none 0 0, vl, .slice none 0 0] :=
 BlkC.mk' (a := ⟨[], [], []⟩) (nilStr _) (nilPr _) h (nilBl _) (blk_ok1 2 lv _ ⟨by decide, by decide⟩ hl (by simp))
theorem lawmeta_fn (u : View) : FnP Tryz.prog 15 [] u fun r u' => PrS u' r metaW := by
 refine FnP.intro [.tmp 0] Tryz.func15 rfl rfl rfl ?_
 intro w0 D hw0
 refine Zc (Za (ya rfl rfl (Zd (ρ' := []) trivial ?_)))
 refine Zb (Zc (Za (Zf (Zbe rfl Tryz.f49' Tryz.z49 (ps := [(_, _), (_, _)]) rfl (vs := [_, _]) rfl) rfl ?_)))
 refine Zf (Zbe rfl Tryz.f49' Tryz.z49 (ps := [(_, _), (_, _)]) rfl (vs := [_, _]) rfl) rfl ?_
 refine Zq rfl rfl ?_
 refine Zac trivial Tryz.s22 Tryz.z49 (ps := [(_, _), (_, _)]) rfl (xs := [_, _, _, _]) rfl rfl rfl rfl rfl rfl rfl ?_
 refine Zbm 3 rfl ?_
 intro ad3 cap3 u3 hle3z hsl3
 refine ya rfl rfl (Zd (ρ' := [(0, _)]) ⟨rfl, trivial⟩ ?_)
 refine Zb (Zv ?_)
 refine Zav (.tmp rfl) ?_
 exact ⟨_, _, rfl, hsl3⟩
theorem lawhead_fn (lv : Int) (s : Bs) (hs : s.length ≤ 1000) (u : View) : FnP Tryz.prog 16 [.int .i64 lv, str s] u fun r u' => ∃ ad cap, r = .agg #[.int .i64 2, .int .i64 lv, str [], str [], str [], str [], str [], .slice none 0 0, .slice none 0 0, .slice ad 1 cap, .slice none 0 0] ∧ InlS u' (.slice ad 1 cap) [tI s] := by
 refine FnP.intro [.cell 4 39] Tryz.func16 rfl rfl rfl ?_
 intro w0 D hw0
 refine Zc (Za (Zq rfl rfl ?_))
 refine Zax trivial Tryz.z39 rfl rfl rfl ?_
 refine Zd (ρ' := [(0, _), (1, _), (4, _)]) ⟨rfl, rfl, rfl, trivial⟩ ?_
 refine Zb (Zc (Za (ym rfl rfl (ym rfl rfl (Zf (Zbe rfl Tryz.f45' Tryz.z45 (ps := [(_, _), (_, _)]) rfl (vs := [_, _, _, _, _, _, _, _, _, _]) rfl) rfl ?_)))))
 refine Zq rfl rfl ?_
 refine Zac trivial Tryz.s37 Tryz.z45 (ps := [(_, _)]) rfl (xs := [_, _, _, _, _, _, _, _, _, _]) rfl rfl rfl rfl rfl rfl rfl ?_
 refine Zbm 8 rfl ?_
 intro ad8 cap8 u8 hle8z hsl8
 refine Zf (Zbe rfl Tryz.f39' Tryz.z39 (ps := [(_, _), (_, _), (_, _)]) rfl (vs := [_, _, _, _, _, _, _, _, _, _, _]) rfl) rfl ?_
 refine Zq rfl rfl ?_
 refine Zt trivial rfl Tryz.k39 rfl rfl rfl (vs := [_, _, _, _, _, _, _, _, _, _, _]) rfl rfl (by first | rfl | assumption | simp [Value.oneCell', str]) (Nat.le_of_ble_eq_true rfl) rfl ?_
 refine Zd (ρ' := [(4, _)]) ⟨rfl, trivial⟩ ?_
 refine Zb (Zv ?_)
 refine Zav (.cell rfl rfl Tryz.k39 (cs := _) (vs := [_, _, _, _, _, _, _, _, _, _, _]) rfl rfl rfl) ?_
 exact ⟨_, _, rfl, ⟨_, ⟨_, _, rfl, hsl8⟩, InlsC.one (tI_cells _ s (by omega))⟩⟩
set_option maxHeartbeats 4000000 in
theorem lawawake_fn (u : View) (hT : TabU u) : FnP Tryz.prog 6 [] u fun r _ => r = .bool true := by
 refine FnP.intro [.tmp 0] Tryz.func6 rfl rfl rfl ?_
 intro w0 D hw0
 refine Zc (Za (ya rfl rfl (Zd (ρ' := []) trivial ?_)))
 refine Zb (Zc (Za (Zq rfl rfl ?_)))
 refine Zbb (caps := []) trivial rfl rfl Tryz.c15 rfl (FnP.mono (lawmeta_fn u) ?_)
 rintro v uA hle0 ⟨adm, capm, rfl, hm⟩ hleA
 refine Zq rfl rfl ?_
 refine Zbb (caps := []) trivial rfl rfl Tryz.c16 rfl (FnP.mono (lawhead_fn 2 [65] (by decide) uA) ?_)
 rintro v uB hle0 ⟨adh, caph, rfl, hh⟩ hleB
 refine Zq rfl rfl ?_
 refine Zac trivial Tryz.s23 Tryz.z39 (ps := [(_, _)]) rfl (xs := [_, _, _, _, _, _, _, _, _, _, _]) rfl rfl rfl rfl rfl rfl rfl ?_
 refine Zbm 8 rfl ?_
 intro ad8 cap8 u8 hle8z hsl8
 have hB1 : BlkS u8 (.slice ad8 1 cap8) [hdW 2 [65]] := ⟨_, ⟨_, _, rfl, hsl8⟩, BlksC.one (hd_C ⟨by decide, by decide⟩ (hh.mono hle8z))⟩
 have hT1 := ((hT.mono hleA).mono hleB).mono hle8z
 refine Zf (Zbe rfl Tryz.f25' Tryz.z25 (ps := [(_, _), (_, _)]) rfl (vs := [_, _]) rfl) rfl ?_
 refine Zq rfl rfl ?_
 refine Zbb (caps := []) trivial rfl rfl Tryz.c9 rfl (FnP.mono (check_fn _ _ metaW [hdW 2 [65]] u8 hT1 (by decide) (by simp [smB, sm_hd]) (by decide) ⟨_, _, rfl, (hm.mono hleB).mono hle8z⟩ hB1) ?_)
 rintro v uC hle0 ⟨ad1, cap1, rfl, hf1⟩ hleC
 rw [F_d1] at hf1 ⊢
 have hc1 : cut (fltC [(levS, [65])]) (0 * 3) 3 = [str levS, str [], str [65]] := rfl
 have hT1 := hT1.mono hleC
 refine ya rfl rfl (Zd (ρ' := [(1, _)]) ⟨rfl, trivial⟩ ?_)
 refine Zb (Zc (Za (Zf (Zbe rfl Tryz.f25' Tryz.z25 (ps := []) rfl (vs := [_, _]) rfl) rfl ?_)))
 refine Zq rfl rfl ?_
 refine Zbb (caps := []) trivial rfl rfl Tryz.c9 rfl (FnP.mono (check_fn _ _ [] [] uC hT1 (by decide) (by simp [smB]) (by decide) (nilPr _) (nilBl _)) ?_)
 rintro v uD hle0 ⟨ad2, cap2, rfl, hf2⟩ hleD
 rw [F_nil] at hf2 ⊢
 have hc2 : cut (fltC [(langS, langS), (titS, titS)]) (0 * 3) 3 = [str langS, str [], str langS] := rfl
 have hc3 : cut (fltC [(langS, langS), (titS, titS)]) (1 * 3) 3 = [str titS, str [], str titS] := rfl
 have hf1 := hf1.mono hleD
 refine ya rfl rfl (Zd (ρ' := [(1, _), (2, _)]) ⟨rfl, rfl, trivial⟩ ?_)
 refine Zb (Zc (Za (Zf (Zbe rfl Tryz.f45' Tryz.z45 (ps := [(_, _), (_, _)]) rfl (vs := [_, _, _, _, _, _, _, _, _, _]) rfl) rfl ?_)))
 refine Zq rfl rfl ?_
 refine Zac trivial Tryz.s37 Tryz.z45 (ps := [(_, _)]) rfl (xs := [_, _, _, _, _, _, _, _, _, _]) rfl rfl rfl rfl rfl rfl rfl ?_
 refine Zbm 14 rfl ?_
 intro ad14 cap14 u14 hle14z hsl14
 refine Zf (Zbe rfl Tryz.f39' Tryz.z39 (ps := [(_, _), (_, _)]) rfl (vs := [_, _, _, _, _, _, _, _, _, _, _]) rfl) rfl ?_
 refine Zq rfl rfl ?_
 refine Zax trivial Tryz.z39 rfl rfl rfl ?_
 refine Zq rfl rfl ?_
 refine Zt trivial rfl Tryz.k39 rfl rfl rfl (vs := [_, _, _, _, _, _, _, _, _, _, _]) rfl rfl (by first | rfl | assumption | simp [Value.oneCell', str]) (Nat.le_of_ble_eq_true rfl) rfl ?_
 refine Zd (ρ' := [(1, _), (2, _), (3, _)]) ⟨rfl, rfl, rfl, trivial⟩ ?_
 refine Zb ?_
 refine Zbv (fun ρ σ uc5 => ∃ (adm2 : Option Addr) (capm2 : Nat) (adb2 : Option Addr) (capb2 : Nat) (rcs : List Value), VLe uD uc5 ∧ σ = [(4, (none, .box [.slice adm2 2 capm2, .slice adb2 3 capb2]))] ∧ ρ = [(1, .v (.slice ad1 1 cap1)), (2, .v (.slice ad2 2 cap2)), (4, .p 4 0)] ∧ (SlC uc5 adm2 2 capm2 2 (pairsC [(langS, enS), (titS, [65])]) ∧ SlC uc5 adb2 3 capb2 11 rcs ∧ BlksC uc5 r3W rcs)) ?_ ?_
 ·
  refine Zbu Tryz.mixed rfl [(3, _)] ⟨rfl, trivial⟩ ?_
  refine ra_y (i := 2) rfl (by kernel_rfl) (by kernel_rfl) (by kernel_rfl) (Ze (Zam)) (Zj rfl Tryz.k39 rfl rfl rfl (vs := [_, _, _, _, _, _, _, _, _, _, _]) rfl rfl rfl) rfl ?_
  refine ra_all (is := [0, 6]) (by kernel_rfl) rfl ?_
  refine raall_cons rfl rfl ?_ ?_
  ·
   refine Zbb (caps := []) ⟨rfl, trivial⟩ rfl rfl Tryz.c16 rfl (FnP.mono (lawhead_fn 1 [65] (by decide) _) ?_)
   rintro v uE hle0 ⟨ade, cape, rfl, he⟩ hleE
   refine ra_all (is := [1, 6]) (by kernel_rfl) rfl ?_
   refine raall_cons rfl rfl ?_ ?_
   ·
    refine Zbb (caps := []) ⟨rfl, trivial⟩ rfl rfl Tryz.c16 rfl (FnP.mono (lawhead_fn 3 [66] (by decide) _) ?_)
    rintro v uF hle0 ⟨adf, capf, rfl, hf⟩ hleF
    refine ra_all (is := [3, 6]) (by kernel_rfl) rfl ?_
    refine raall_cons rfl rfl ?_ ?_
    ·
     refine Zac ⟨rfl, trivial⟩ Tryz.s23 Tryz.z39 (ps := [(_, _), (_, _), (_, _)]) rfl (xs := [_, _, _, _, _, _, _, _, _, _, _, _, _, _, _, _, _, _, _, _, _, _, _, _, _, _, _, _, _, _, _, _, _]) rfl rfl rfl rfl rfl rfl rfl ?_
     refine ra_freeze 19 rfl ?_
     intro ad19 cap19 u19 hle19z hsl19
     have hp : InlC u19 lkW [.int .i64 9, str [], str [120], str [], str [], .slice none 0 0, .slice none 0 0, .slice none 0 0, .slice none 0 0, .slice none 0 0] :=
      InlC.mk' (nilStr _) (nilPr _) (nilStr _) (nilCi _) (nilInl _) ⟨⟨by decide, by decide⟩, by decide, by decide, by decide, attrOkZ, ⟨by decide, by simp⟩, ⟨by decide, by simp⟩, by decide⟩
     have hpl : InlS u19 (.slice ad14 1 cap14) [lkW] := ⟨_, ⟨_, _, rfl, ((hsl14.mono hleE).mono hleF).mono hle19z⟩, InlsC.one hp⟩
     have hpb : BlkC u19 (paW lkW) [.int .i64 1, .int .i64 0, str [], str [], str [], str [], str [], .slice none 0 0, .slice none 0 0, .slice ad14 1 cap14, .slice none 0 0] :=
      BlkC.mk' (a := ⟨[], [], []⟩) (nilStr _) (nilPr _) hpl (nilBl _) (blk_ok1 1 0 _ ⟨by decide, by decide⟩ ⟨by decide, by decide⟩ (by simp))
     have hB3 : BlkS u19 (.slice ad19 3 cap19) d3W := ⟨_, ⟨_, _, rfl, hsl19⟩, ((BlksC.one (hd_C (lv := 1) (s := [65]) ⟨by decide, by decide⟩ ((he.mono hleF).mono hle19z))).append (BlksC.one (hd_C (lv := 3) (s := [66]) ⟨by decide, by decide⟩ (hf.mono hle19z)))).append (BlksC.one hpb)⟩
     refine ra_y (i := 4) rfl (by kernel_rfl) (by kernel_rfl) (by kernel_rfl) (Ze (Zam)) (Zbe rfl Tryz.f25' Tryz.z25 (ps := [(_, _)]) rfl (vs := [_, _]) rfl) rfl ?_
     refine ra_all (is := [5, 6]) (by kernel_rfl) rfl ?_
     refine raall_cons rfl rfl ?_ ?_
     ·
      refine Zbb (caps := []) ⟨rfl, trivial⟩ rfl rfl Tryz.c7 rfl (FnP.mono (repair_fn _ _ [] d3W u19 (by decide) sm_d3.2.1 sm_d3.1 sm_d3.2.2 (by rw [R_d3]; exact sm_r3.2) (by rw [R_d3]; exact sm_r3.1) (nilPr _) hB3) ?_)
      rintro v uR hle0 ⟨_, _, rfl, ⟨adm2, capm2, rfl, hm2⟩, ⟨rcs, ⟨adb2, capb2, rfl, hb2⟩, hbc2⟩⟩ hleR
      rw [M_d3] at hm2 ⊢
      rw [R_d3] at hb2 hbc2 ⊢
      refine ra_do (i := 6) rfl rfl (by kernel_rfl) ?_
      refine Zax ⟨rfl, trivial⟩ Tryz.z25 rfl rfl rfl ?_
      refine ra_do (i := 7) rfl rfl (by kernel_rfl) ?_
      refine Zt ⟨rfl, trivial⟩ rfl Tryz.k25 rfl rfl rfl (vs := [_, _]) rfl rfl (by first | rfl | assumption | simp [Value.oneCell', str]) (Nat.le_of_ble_eq_true rfl) rfl ?_
      refine ra_end (by kernel_rfl) (ρ' := [(1, _), (2, _), (4, _)]) ⟨rfl, rfl, rfl, trivial⟩ ?_
      refine Zae ?_
      refine ⟨[(1, _), (2, _), (4, _)], [(4, _)], ⟨rfl, rfl, rfl, trivial⟩, ⟨rfl, trivial⟩, adm2, capm2, adb2, capb2, rcs, (hle14z.trans (hleE.trans (hleF.trans (hle19z.trans hleR)))), rfl, rfl, ?_⟩
      exact ⟨hm2, hb2, hbc2⟩
     refine raall_cons rfl rfl ?_ ?_
     ·
      refine Zax ⟨rfl, trivial⟩ Tryz.z25 rfl rfl rfl ?_
      refine ra_do (i := 5) rfl rfl (by kernel_rfl) ?_
      refine Zbb (caps := []) ⟨rfl, trivial⟩ rfl rfl Tryz.c7 rfl (FnP.mono (repair_fn _ _ [] d3W u19 (by decide) sm_d3.2.1 sm_d3.1 sm_d3.2.2 (by rw [R_d3]; exact sm_r3.2) (by rw [R_d3]; exact sm_r3.1) (nilPr _) hB3) ?_)
      rintro v uR hle0 ⟨_, _, rfl, ⟨adm2, capm2, rfl, hm2⟩, ⟨rcs, ⟨adb2, capb2, rfl, hb2⟩, hbc2⟩⟩ hleR
      rw [M_d3] at hm2 ⊢
      rw [R_d3] at hb2 hbc2 ⊢
      refine ra_do (i := 7) rfl rfl (by kernel_rfl) ?_
      refine Zt ⟨rfl, trivial⟩ rfl Tryz.k25 rfl rfl rfl (vs := [_, _]) rfl rfl (by first | rfl | assumption | simp [Value.oneCell', str]) (Nat.le_of_ble_eq_true rfl) rfl ?_
      refine ra_end (by kernel_rfl) (ρ' := [(1, _), (2, _), (4, _)]) ⟨rfl, rfl, rfl, trivial⟩ ?_
      refine Zae ?_
      refine ⟨[(1, _), (2, _), (4, _)], [(4, _)], ⟨rfl, rfl, rfl, trivial⟩, ⟨rfl, trivial⟩, adm2, capm2, adb2, capb2, rcs, (hle14z.trans (hleE.trans (hleF.trans (hle19z.trans hleR)))), rfl, rfl, ?_⟩
      exact ⟨hm2, hb2, hbc2⟩
     exact raall_nil
    refine raall_cons rfl rfl ?_ ?_
    ·
     refine Zax ⟨rfl, trivial⟩ Tryz.z25 rfl rfl rfl ?_
     refine ra_do (i := 3) rfl rfl (by kernel_rfl) ?_
     refine Zac ⟨rfl, trivial⟩ Tryz.s23 Tryz.z39 (ps := [(_, _), (_, _), (_, _)]) rfl (xs := [_, _, _, _, _, _, _, _, _, _, _, _, _, _, _, _, _, _, _, _, _, _, _, _, _, _, _, _, _, _, _, _, _]) rfl rfl rfl rfl rfl rfl rfl ?_
     refine ra_freeze 19 rfl ?_
     intro ad19 cap19 u19 hle19z hsl19
     have hp : InlC u19 lkW [.int .i64 9, str [], str [120], str [], str [], .slice none 0 0, .slice none 0 0, .slice none 0 0, .slice none 0 0, .slice none 0 0] :=
      InlC.mk' (nilStr _) (nilPr _) (nilStr _) (nilCi _) (nilInl _) ⟨⟨by decide, by decide⟩, by decide, by decide, by decide, attrOkZ, ⟨by decide, by simp⟩, ⟨by decide, by simp⟩, by decide⟩
     have hpl : InlS u19 (.slice ad14 1 cap14) [lkW] := ⟨_, ⟨_, _, rfl, ((hsl14.mono hleE).mono hleF).mono hle19z⟩, InlsC.one hp⟩
     have hpb : BlkC u19 (paW lkW) [.int .i64 1, .int .i64 0, str [], str [], str [], str [], str [], .slice none 0 0, .slice none 0 0, .slice ad14 1 cap14, .slice none 0 0] :=
      BlkC.mk' (a := ⟨[], [], []⟩) (nilStr _) (nilPr _) hpl (nilBl _) (blk_ok1 1 0 _ ⟨by decide, by decide⟩ ⟨by decide, by decide⟩ (by simp))
     have hB3 : BlkS u19 (.slice ad19 3 cap19) d3W := ⟨_, ⟨_, _, rfl, hsl19⟩, ((BlksC.one (hd_C (lv := 1) (s := [65]) ⟨by decide, by decide⟩ ((he.mono hleF).mono hle19z))).append (BlksC.one (hd_C (lv := 3) (s := [66]) ⟨by decide, by decide⟩ (hf.mono hle19z)))).append (BlksC.one hpb)⟩
     refine ra_y (i := 4) rfl (by kernel_rfl) (by kernel_rfl) (by kernel_rfl) (Ze (Zam)) (Zbe rfl Tryz.f25' Tryz.z25 (ps := [(_, _)]) rfl (vs := [_, _]) rfl) rfl ?_
     refine ra_do (i := 5) rfl rfl (by kernel_rfl) ?_
     refine Zbb (caps := []) ⟨rfl, trivial⟩ rfl rfl Tryz.c7 rfl (FnP.mono (repair_fn _ _ [] d3W u19 (by decide) sm_d3.2.1 sm_d3.1 sm_d3.2.2 (by rw [R_d3]; exact sm_r3.2) (by rw [R_d3]; exact sm_r3.1) (nilPr _) hB3) ?_)
     rintro v uR hle0 ⟨_, _, rfl, ⟨adm2, capm2, rfl, hm2⟩, ⟨rcs, ⟨adb2, capb2, rfl, hb2⟩, hbc2⟩⟩ hleR
     rw [M_d3] at hm2 ⊢
     rw [R_d3] at hb2 hbc2 ⊢
     refine ra_do (i := 7) rfl rfl (by kernel_rfl) ?_
     refine Zt ⟨rfl, trivial⟩ rfl Tryz.k25 rfl rfl rfl (vs := [_, _]) rfl rfl (by first | rfl | assumption | simp [Value.oneCell', str]) (Nat.le_of_ble_eq_true rfl) rfl ?_
     refine ra_end (by kernel_rfl) (ρ' := [(1, _), (2, _), (4, _)]) ⟨rfl, rfl, rfl, trivial⟩ ?_
     refine Zae ?_
     refine ⟨[(1, _), (2, _), (4, _)], [(4, _)], ⟨rfl, rfl, rfl, trivial⟩, ⟨rfl, trivial⟩, adm2, capm2, adb2, capb2, rcs, (hle14z.trans (hleE.trans (hleF.trans (hle19z.trans hleR)))), rfl, rfl, ?_⟩
     exact ⟨hm2, hb2, hbc2⟩
    exact raall_nil
   refine raall_cons rfl rfl ?_ ?_
   ·
    refine Zax ⟨rfl, trivial⟩ Tryz.z25 rfl rfl rfl ?_
    refine ra_do (i := 1) rfl rfl (by kernel_rfl) ?_
    refine Zbb (caps := []) ⟨rfl, trivial⟩ rfl rfl Tryz.c16 rfl (FnP.mono (lawhead_fn 3 [66] (by decide) _) ?_)
    rintro v uF hle0 ⟨adf, capf, rfl, hf⟩ hleF
    refine ra_do (i := 3) rfl rfl (by kernel_rfl) ?_
    refine Zac ⟨rfl, trivial⟩ Tryz.s23 Tryz.z39 (ps := [(_, _), (_, _), (_, _)]) rfl (xs := [_, _, _, _, _, _, _, _, _, _, _, _, _, _, _, _, _, _, _, _, _, _, _, _, _, _, _, _, _, _, _, _, _]) rfl rfl rfl rfl rfl rfl rfl ?_
    refine ra_freeze 19 rfl ?_
    intro ad19 cap19 u19 hle19z hsl19
    have hp : InlC u19 lkW [.int .i64 9, str [], str [120], str [], str [], .slice none 0 0, .slice none 0 0, .slice none 0 0, .slice none 0 0, .slice none 0 0] :=
     InlC.mk' (nilStr _) (nilPr _) (nilStr _) (nilCi _) (nilInl _) ⟨⟨by decide, by decide⟩, by decide, by decide, by decide, attrOkZ, ⟨by decide, by simp⟩, ⟨by decide, by simp⟩, by decide⟩
    have hpl : InlS u19 (.slice ad14 1 cap14) [lkW] := ⟨_, ⟨_, _, rfl, ((hsl14.mono hleE).mono hleF).mono hle19z⟩, InlsC.one hp⟩
    have hpb : BlkC u19 (paW lkW) [.int .i64 1, .int .i64 0, str [], str [], str [], str [], str [], .slice none 0 0, .slice none 0 0, .slice ad14 1 cap14, .slice none 0 0] :=
     BlkC.mk' (a := ⟨[], [], []⟩) (nilStr _) (nilPr _) hpl (nilBl _) (blk_ok1 1 0 _ ⟨by decide, by decide⟩ ⟨by decide, by decide⟩ (by simp))
    have hB3 : BlkS u19 (.slice ad19 3 cap19) d3W := ⟨_, ⟨_, _, rfl, hsl19⟩, ((BlksC.one (hd_C (lv := 1) (s := [65]) ⟨by decide, by decide⟩ ((he.mono hleF).mono hle19z))).append (BlksC.one (hd_C (lv := 3) (s := [66]) ⟨by decide, by decide⟩ (hf.mono hle19z)))).append (BlksC.one hpb)⟩
    refine ra_y (i := 4) rfl (by kernel_rfl) (by kernel_rfl) (by kernel_rfl) (Ze (Zam)) (Zbe rfl Tryz.f25' Tryz.z25 (ps := [(_, _)]) rfl (vs := [_, _]) rfl) rfl ?_
    refine ra_do (i := 5) rfl rfl (by kernel_rfl) ?_
    refine Zbb (caps := []) ⟨rfl, trivial⟩ rfl rfl Tryz.c7 rfl (FnP.mono (repair_fn _ _ [] d3W u19 (by decide) sm_d3.2.1 sm_d3.1 sm_d3.2.2 (by rw [R_d3]; exact sm_r3.2) (by rw [R_d3]; exact sm_r3.1) (nilPr _) hB3) ?_)
    rintro v uR hle0 ⟨_, _, rfl, ⟨adm2, capm2, rfl, hm2⟩, ⟨rcs, ⟨adb2, capb2, rfl, hb2⟩, hbc2⟩⟩ hleR
    rw [M_d3] at hm2 ⊢
    rw [R_d3] at hb2 hbc2 ⊢
    refine ra_do (i := 7) rfl rfl (by kernel_rfl) ?_
    refine Zt ⟨rfl, trivial⟩ rfl Tryz.k25 rfl rfl rfl (vs := [_, _]) rfl rfl (by first | rfl | assumption | simp [Value.oneCell', str]) (Nat.le_of_ble_eq_true rfl) rfl ?_
    refine ra_end (by kernel_rfl) (ρ' := [(1, _), (2, _), (4, _)]) ⟨rfl, rfl, rfl, trivial⟩ ?_
    refine Zae ?_
    refine ⟨[(1, _), (2, _), (4, _)], [(4, _)], ⟨rfl, rfl, rfl, trivial⟩, ⟨rfl, trivial⟩, adm2, capm2, adb2, capb2, rcs, (hle14z.trans (hleE.trans (hleF.trans (hle19z.trans hleR)))), rfl, rfl, ?_⟩
    exact ⟨hm2, hb2, hbc2⟩
   exact raall_nil
  refine raall_cons rfl rfl ?_ ?_
  ·
   refine Zax ⟨rfl, trivial⟩ Tryz.z25 rfl rfl rfl ?_
   refine ra_do (i := 0) rfl rfl (by kernel_rfl) ?_
   refine Zbb (caps := []) ⟨rfl, trivial⟩ rfl rfl Tryz.c16 rfl (FnP.mono (lawhead_fn 1 [65] (by decide) _) ?_)
   rintro v uE hle0 ⟨ade, cape, rfl, he⟩ hleE
   refine ra_do (i := 1) rfl rfl (by kernel_rfl) ?_
   refine Zbb (caps := []) ⟨rfl, trivial⟩ rfl rfl Tryz.c16 rfl (FnP.mono (lawhead_fn 3 [66] (by decide) _) ?_)
   rintro v uF hle0 ⟨adf, capf, rfl, hf⟩ hleF
   refine ra_do (i := 3) rfl rfl (by kernel_rfl) ?_
   refine Zac ⟨rfl, trivial⟩ Tryz.s23 Tryz.z39 (ps := [(_, _), (_, _), (_, _)]) rfl (xs := [_, _, _, _, _, _, _, _, _, _, _, _, _, _, _, _, _, _, _, _, _, _, _, _, _, _, _, _, _, _, _, _, _]) rfl rfl rfl rfl rfl rfl rfl ?_
   refine ra_freeze 19 rfl ?_
   intro ad19 cap19 u19 hle19z hsl19
   have hp : InlC u19 lkW [.int .i64 9, str [], str [120], str [], str [], .slice none 0 0, .slice none 0 0, .slice none 0 0, .slice none 0 0, .slice none 0 0] :=
    InlC.mk' (nilStr _) (nilPr _) (nilStr _) (nilCi _) (nilInl _) ⟨⟨by decide, by decide⟩, by decide, by decide, by decide, attrOkZ, ⟨by decide, by simp⟩, ⟨by decide, by simp⟩, by decide⟩
   have hpl : InlS u19 (.slice ad14 1 cap14) [lkW] := ⟨_, ⟨_, _, rfl, ((hsl14.mono hleE).mono hleF).mono hle19z⟩, InlsC.one hp⟩
   have hpb : BlkC u19 (paW lkW) [.int .i64 1, .int .i64 0, str [], str [], str [], str [], str [], .slice none 0 0, .slice none 0 0, .slice ad14 1 cap14, .slice none 0 0] :=
    BlkC.mk' (a := ⟨[], [], []⟩) (nilStr _) (nilPr _) hpl (nilBl _) (blk_ok1 1 0 _ ⟨by decide, by decide⟩ ⟨by decide, by decide⟩ (by simp))
   have hB3 : BlkS u19 (.slice ad19 3 cap19) d3W := ⟨_, ⟨_, _, rfl, hsl19⟩, ((BlksC.one (hd_C (lv := 1) (s := [65]) ⟨by decide, by decide⟩ ((he.mono hleF).mono hle19z))).append (BlksC.one (hd_C (lv := 3) (s := [66]) ⟨by decide, by decide⟩ (hf.mono hle19z)))).append (BlksC.one hpb)⟩
   refine ra_y (i := 4) rfl (by kernel_rfl) (by kernel_rfl) (by kernel_rfl) (Ze (Zam)) (Zbe rfl Tryz.f25' Tryz.z25 (ps := [(_, _)]) rfl (vs := [_, _]) rfl) rfl ?_
   refine ra_do (i := 5) rfl rfl (by kernel_rfl) ?_
   refine Zbb (caps := []) ⟨rfl, trivial⟩ rfl rfl Tryz.c7 rfl (FnP.mono (repair_fn _ _ [] d3W u19 (by decide) sm_d3.2.1 sm_d3.1 sm_d3.2.2 (by rw [R_d3]; exact sm_r3.2) (by rw [R_d3]; exact sm_r3.1) (nilPr _) hB3) ?_)
   rintro v uR hle0 ⟨_, _, rfl, ⟨adm2, capm2, rfl, hm2⟩, ⟨rcs, ⟨adb2, capb2, rfl, hb2⟩, hbc2⟩⟩ hleR
   rw [M_d3] at hm2 ⊢
   rw [R_d3] at hb2 hbc2 ⊢
   refine ra_do (i := 7) rfl rfl (by kernel_rfl) ?_
   refine Zt ⟨rfl, trivial⟩ rfl Tryz.k25 rfl rfl rfl (vs := [_, _]) rfl rfl (by first | rfl | assumption | simp [Value.oneCell', str]) (Nat.le_of_ble_eq_true rfl) rfl ?_
   refine ra_end (by kernel_rfl) (ρ' := [(1, _), (2, _), (4, _)]) ⟨rfl, rfl, rfl, trivial⟩ ?_
   refine Zae ?_
   refine ⟨[(1, _), (2, _), (4, _)], [(4, _)], ⟨rfl, rfl, rfl, trivial⟩, ⟨rfl, trivial⟩, adm2, capm2, adb2, capb2, rcs, (hle14z.trans (hleE.trans (hleF.trans (hle19z.trans hleR)))), rfl, rfl, ?_⟩
   exact ⟨hm2, hb2, hbc2⟩
  exact raall_nil
 ·
  rintro ρ σ uc5 ⟨adm2, capm2, adb2, capb2, rcs, hlc5, rfl, rfl, ⟨hm2, hb2, hbc2⟩⟩
  refine Zc (Zc ?_)
  have hf1 : SlC uc5 ad1 1 cap1 3 (fltC [(levS, [65])]) := hf1.mono hlc5
  have hf2 : SlC uc5 ad2 2 cap2 3 (fltC [(langS, langS), (titS, titS)]) := hf2.mono hlc5
  have hcm : cut (pairsC [(langS, enS), (titS, [65])]) (1 * 2) 2 = [str titS, str [65]] := rfl
  obtain ⟨k, lv, inf, t, d, ti, a, line, kids, vc, vp, vl, vk, hg, hcutB, _⟩ := hbc2.at (i := 1) (by decide)
  have hg' : some (hdW 2 [66]) = some (Blk.mk k lv inf t d ti a line kids) := hg
  cases hg'
  obtain ⟨k, lv, inf, t, d, ti, a, line, kids, vc3, vp3, vl3, vk3, hg3, hcutP, _, _, hsl, _⟩ := hbc2.at (i := 2) (by decide)
  have hg3' : some (paW lkR) = some (Blk.mk k lv inf t d ti a line kids) := hg3
  cases hg3'
  obtain ⟨lcs, ⟨lad, lcap, rfl, hl1⟩, hl2⟩ := hsl
  obtain ⟨k, t, d, ti, a, args, cites, kids, vc4, vp4, va4, vt4, vk4, hg4, hcutL, _, _, _, _, hkids, _⟩ := hl2.at (i := 0) (by decide)
  have hg4' : some lkR = some (Inl.mk k t d ti a args cites kids) := hg4
  cases hg4'
  obtain ⟨mcs, ⟨mad, mcap, rfl, hk1⟩, hk2⟩ := hkids
  obtain ⟨k, t, d, ti, a, args, cites, kids, vc5, vp5, va5, vt5, vk5, hg5, hcutK, _⟩ := hk2.at (i := 0) (by decide)
  have hl8 : [lkR].length = 1 := rfl
  have hl9 : [tI [120]].length = 1 := rfl
  have hg5' : some (tI [120]) = some (Inl.mk k t d ti a args cites kids) := hg5
  cases hg5'
  refine Za (ym rfl rfl (Zf (Zal rfl rfl Tryz.s30 rfl) rfl ?_))
  refine Zf (Zcc rfl rfl rfl) rfl ?_
  refine ym rfl rfl (Zk rfl rfl (ym rfl rfl (Zk rfl rfl (Zf (Zai rfl Tryz.s30 rfl rfl hf1 (j := 0) rfl (by decide)) rfl ?_))))
  refine Zk rfl rfl (Zf (Zap rfl Tryz.f47' rfl (by decide) rfl) rfl ?_)
  refine Zk rfl rfl (Zf (Zag rfl Tryz.k9 rfl (by assumption) (by omega) (by assumption) (vs := [_]) rfl rfl rfl rfl) rfl ?_)
  refine Zk rfl rfl (Zf (Zbk rfl rfl rfl) rfl ?_)
  refine Zf (Zm rfl rfl rfl) rfl (ym rfl rfl (Zk rfl rfl (ym rfl rfl (Zk rfl rfl (Zf (Zai rfl Tryz.s30 rfl rfl hf1 (j := 0) rfl (by decide)) rfl ?_)))))
  refine Zk rfl rfl (Zf (Zap rfl Tryz.f47' rfl (by decide) rfl) rfl ?_)
  refine Zk rfl rfl (Zf (Zag rfl Tryz.k9 rfl (by assumption) (by omega) (by assumption) (vs := [_]) rfl rfl rfl rfl) rfl ?_)
  refine Zk rfl rfl (Zf (Zbk rfl rfl rfl) rfl ?_)
  refine Zf (Zm rfl rfl rfl) rfl (ym rfl rfl (Zk rfl rfl (ym rfl rfl (Zk rfl rfl (Zf (Zal rfl rfl Tryz.s30 rfl) rfl ?_)))))
  refine Zk rfl rfl (Zf (Zcc rfl rfl rfl) rfl ?_)
  refine Zf (Zm rfl rfl rfl) rfl (ym rfl rfl (Zk rfl rfl (ym rfl rfl (Zk rfl rfl (Zf (Zai rfl Tryz.s30 rfl rfl hf2 (j := 0) rfl (by decide)) rfl ?_)))))
  refine Zk rfl rfl (Zf (Zap rfl Tryz.f47' rfl (by decide) rfl) rfl ?_)
  refine Zk rfl rfl (Zf (Zag rfl Tryz.k9 rfl (by assumption) (by omega) (by assumption) (vs := [_]) rfl rfl rfl rfl) rfl ?_)
  refine Zk rfl rfl (Zf (Zbk rfl rfl rfl) rfl ?_)
  refine Zf (Zm rfl rfl rfl) rfl (ym rfl rfl (Zk rfl rfl (ym rfl rfl (Zk rfl rfl (Zf (Zai rfl Tryz.s30 rfl rfl hf2 (j := 1) rfl (by decide)) rfl ?_)))))
  refine Zk rfl rfl (Zf (Zap rfl Tryz.f47' rfl (by decide) rfl) rfl ?_)
  refine Zk rfl rfl (Zf (Zag rfl Tryz.k9 rfl (by assumption) (by omega) (by assumption) (vs := [_]) rfl rfl rfl rfl) rfl ?_)
  refine Zk rfl rfl (Zf (Zbk rfl rfl rfl) rfl ?_)
  refine Zf (Zm rfl rfl rfl) rfl (ym rfl rfl (Zk rfl rfl (Zf (Zi rfl Tryz.f25' rfl (by decide) rfl) rfl ?_)))
  refine Zk rfl rfl (Zf (Zj rfl Tryz.k23 rfl rfl rfl (vs := [_]) rfl rfl rfl) rfl ?_)
  refine Zk rfl rfl (Zf (Zal rfl rfl Tryz.s23 rfl) rfl ?_)
  refine Zk rfl rfl (Zf (Zcc rfl rfl rfl) rfl ?_)
  refine Zf (Zm rfl rfl rfl) rfl (ym rfl rfl (Zk rfl rfl (Zf (Zi rfl Tryz.f25' rfl (by decide) rfl) rfl ?_)))
  refine Zk rfl rfl (Zf (Zj rfl Tryz.k23 rfl rfl rfl (vs := [_]) rfl rfl rfl) rfl ?_)
  refine Zk rfl rfl (Zf (Zai rfl Tryz.s23 rfl rfl hb2 (j := 1) rfl (by decide)) rfl ?_)
  refine Zk rfl rfl (Zf (Zap rfl Tryz.f39' rfl (by decide) rfl) rfl ?_)
  refine Zk rfl rfl (Zf (Zag rfl Tryz.k3 rfl (by assumption) (by omega) (by assumption) (vs := [_]) rfl rfl rfl rfl) rfl ?_)
  refine Zk rfl rfl (Zf (Zcc rfl rfl rfl) rfl ?_)
  refine Zf (Zm rfl rfl rfl) rfl (ym rfl rfl (Zk rfl rfl (Zf (Zi rfl Tryz.f25' rfl (by decide) rfl) rfl ?_)))
  refine Zk rfl rfl (Zf (Zj rfl Tryz.k22 rfl rfl rfl (vs := [_]) rfl rfl rfl) rfl ?_)
  refine Zk rfl rfl (Zf (Zal rfl rfl Tryz.s22 rfl) rfl ?_)
  refine Zk rfl rfl (Zf (Zcc rfl rfl rfl) rfl ?_)
  refine Zf (Zm rfl rfl rfl) rfl (ym rfl rfl (Zk rfl rfl (Zf (Zi rfl Tryz.f25' rfl (by decide) rfl) rfl ?_)))
  refine Zk rfl rfl (Zf (Zj rfl Tryz.k22 rfl rfl rfl (vs := [_]) rfl rfl rfl) rfl ?_)
  refine Zk rfl rfl (Zf (Zai rfl Tryz.s22 rfl rfl hm2 (j := 1) rfl (by decide)) rfl ?_)
  refine Zk rfl rfl (Zf (Zap rfl Tryz.f49' rfl (by decide) rfl) rfl ?_)
  refine Zk rfl rfl (Zf (Zag rfl Tryz.k9 rfl (by assumption) (by omega) (by assumption) (vs := [_]) rfl rfl rfl rfl) rfl ?_)
  refine Zk rfl rfl (Zf (Zbk rfl rfl rfl) rfl ?_)
  refine Zf (Zm rfl rfl rfl) rfl (Zd (ρ' := [(4, _), (85, _)]) ⟨rfl, rfl, trivial⟩ ?_)
  refine Zb ?_
  refine Zby rfl (rfl) ?_
  refine Zs (Zb (Zc (Za (Zf (Zi rfl Tryz.f25' rfl (by decide) rfl) rfl ?_))))
  refine Zf (Zj rfl Tryz.k23 rfl rfl rfl (vs := [_]) rfl rfl rfl) rfl ?_
  refine Zf (Zai rfl Tryz.s23 rfl rfl hb2 (j := 2) rfl (by decide)) rfl ?_
  refine Zf (Zap rfl Tryz.f39' rfl (by decide) rfl) rfl ?_
  refine Zf (Zag rfl Tryz.k37 rfl (by assumption) (by omega) (by assumption) (vs := [_]) rfl rfl rfl rfl) rfl ?_
  refine ya rfl rfl (Zd (ρ' := [(5, _)]) ⟨rfl, trivial⟩ ?_)
  refine Zb (Zc (Za (ym rfl rfl (Zf (Zal rfl rfl Tryz.s37 rfl) rfl ?_))))
  refine Zf (Zay rfl rfl rfl) rfl ?_
  refine ym rfl rfl (Zk rfl rfl (ym rfl rfl (Zk rfl rfl (Zf (Zai rfl Tryz.s37 rfl rfl hl1 (j := 0) rfl (by decide)) rfl ?_))))
  refine Zk rfl rfl (Zf (Zap rfl Tryz.f45' rfl (by decide) rfl) rfl ?_)
  refine Zk rfl rfl (Zf (Zag rfl Tryz.k37 rfl (by assumption) (by omega) (by assumption) (vs := [_]) rfl rfl rfl rfl) rfl ?_)
  refine Zk rfl rfl (Zf (Zal rfl rfl Tryz.s37 rfl) rfl ?_)
  refine Zk rfl rfl (Zf (Zay rfl rfl rfl) rfl ?_)
  refine Zf (Zl rfl rfl rfl) rfl (ym rfl rfl (Zk rfl rfl (ym rfl rfl (Zk rfl rfl (Zf (Zai rfl Tryz.s37 rfl rfl hl1 (j := 0) rfl (by decide)) rfl ?_)))))
  refine Zk rfl rfl (Zf (Zap rfl Tryz.f45' rfl (by decide) rfl) rfl ?_)
  refine Zk rfl rfl (Zf (Zag rfl Tryz.k37 rfl (by assumption) (by omega) (by assumption) (vs := [_]) rfl rfl rfl rfl) rfl ?_)
  refine Zk rfl rfl (Zf (Zai rfl Tryz.s37 rfl rfl hk1 (j := 0) rfl (by decide)) rfl ?_)
  refine Zk rfl rfl (Zf (Zap rfl Tryz.f45' rfl (by decide) rfl) rfl ?_)
  refine Zk rfl rfl (Zf (Zag rfl Tryz.k9 rfl (by assumption) (by omega) (by assumption) (vs := [_]) rfl rfl rfl rfl) rfl ?_)
  refine Zk rfl rfl (Zf (Zbg rfl rfl rfl) rfl ?_)
  refine Zf (Zl rfl rfl rfl) rfl (ya rfl rfl (Zd (ρ' := [(0, _)]) ⟨rfl, trivial⟩ ?_))
  refine Zb (Zv ?_)
  refine Zav (.tmp rfl) ?_
  rfl
theorem byte_at {s : Bs} {i : Nat} (h : i < s.length) : ∃ c, s[i]? = some c ∧ c.toNat < 256 := ⟨s[i], List.getElem?_eq_getElem h, UInt8.toNat_lt _⟩
theorem kmore_fn (s : Bs) (i : Nat) (lo hi : Int) (hi0 : i ≤ 1099511627776) (hs : s.length ≤ 1099511627776) (u : View) : FnP Tryz.prog 126 [str s, .int .i64 i, .int .i64 lo, .int .i64 hi] u fun r _ => ∃ z : Int, r = .int .i64 z ∧ -128 ≤ z ∧ z ≤ 127 := by
 refine FnP.intro [.tmp 8] Tryz.func126 rfl rfl rfl ?_
 intro w0 D hw0
 refine Zc (Za (ya rfl rfl (Zd (ρ' := [(0, _), (1, _), (2, _), (3, _)]) ⟨rfl, rfl, rfl, rfl, trivial⟩ ?_)))
 refine Zb (Zc (Zc (Za (ym rfl rfl (ym rfl rfl (Zf (Zan rfl rfl Tryz.str9 rfl) rfl ?_))))))
 refine Zf (Zbw rfl rfl rfl) rfl ?_
 refine ym rfl rfl ?_
 refine Zad 13 rfl (fun hg1_4 => ?_) (fun hg1_4 => ?_)
 ·
  iterate 6 refine Zo rfl rfl rfl rfl ?_
  refine Zf (Zl rfl rfl rfl) rfl (ym rfl rfl ?_)
  iterate 6 refine Zo rfl rfl rfl rfl ?_
  refine Zf (Zl rfl rfl rfl) rfl (Zd (ρ' := [(0, _), (1, _), (28, _)]) ⟨rfl, rfl, rfl, trivial⟩ ?_)
  refine Zb ?_
  refine Zce rfl (rfl) ?_
  refine Zc (Za (ya rfl rfl (Zd (ρ' := [(8, _)]) ⟨rfl, trivial⟩ ?_)))
  refine Zb (Zv (Zh ?_))
  refine Zav (.tmp rfl) ?_
  first | exact ⟨-1, rfl, by decide, by decide⟩ | exact ⟨_, rfl, by omega, by omega⟩
 ·
  refine Zk rfl rfl (ym rfl rfl ?_)
  have hlt : i < s.length := by have := of_decide_eq_false hg1_4; omega
  obtain ⟨c, hc, hc2⟩ := byte_at hlt
  refine Zk rfl rfl (ym rfl rfl (Zk rfl rfl (Zf (Zao rfl Tryz.str9 rfl rfl (by first | rfl | omega) (by assumption)) rfl ?_)))
  refine Zk rfl rfl (Zf (y_conv rfl Tryz.u5 Tryz.u3 rfl (Zu (by omega))) rfl ?_)
  refine Zk rfl rfl (ym rfl rfl (Zk rfl rfl (Zf (Zbh rfl rfl rfl) rfl ?_)))
  refine Zf (Zm rfl rfl rfl) rfl (ym rfl rfl ?_)
  refine Zad 21 rfl (fun hg1_12 => ?_) (fun hg1_12 => ?_)
  ·
   iterate 6 refine Zo rfl rfl rfl rfl ?_
   refine Zf (Zl rfl rfl rfl) rfl (Zd (ρ' := [(0, _), (1, _), (28, _)]) ⟨rfl, rfl, rfl, trivial⟩ ?_)
   refine Zb ?_
   refine Zce rfl (rfl) ?_
   refine Zc (Za (ya rfl rfl (Zd (ρ' := [(8, _)]) ⟨rfl, trivial⟩ ?_)))
   refine Zb (Zv (Zh ?_))
   refine Zav (.tmp rfl) ?_
   first | exact ⟨-1, rfl, by decide, by decide⟩ | exact ⟨_, rfl, by omega, by omega⟩
  ·
   refine Zk rfl rfl (ym rfl rfl (Zk rfl rfl (ym rfl rfl (Zk rfl rfl (Zf (Zao rfl Tryz.str9 rfl rfl (by first | rfl | omega) (by assumption)) rfl ?_)))))
   refine Zk rfl rfl (Zf (y_conv rfl Tryz.u5 Tryz.u3 rfl (Zu (by omega))) rfl ?_)
   refine Zk rfl rfl (ym rfl rfl (Zk rfl rfl (Zf (Zcd rfl rfl rfl) rfl ?_)))
   refine Zf (Zm rfl rfl rfl) rfl (Zd (ρ' := [(0, _), (1, _), (28, _)]) ⟨rfl, rfl, rfl, trivial⟩ ?_)
   refine Zb ?_
   refine Zn rfl (fun hb2 => ?_) (fun hb2 => ?_)
   ·
    refine Zc (Za (ya rfl rfl (Zd (ρ' := [(8, _)]) ⟨rfl, trivial⟩ ?_)))
    refine Zb (Zv (Zh ?_))
    refine Zav (.tmp rfl) ?_
    first | exact ⟨-1, rfl, by decide, by decide⟩ | exact ⟨_, rfl, by omega, by omega⟩
   ·
    refine Zs (Zb (Zc (Za (ym rfl rfl (ym rfl rfl (Zf (Zao rfl Tryz.str9 rfl rfl (by first | rfl | omega) (by assumption)) rfl ?_))))))
    refine Zf (y_conv rfl Tryz.u5 Tryz.u3 rfl (Zu (by omega))) rfl ?_
    refine Zf (y_sub rfl rfl rfl (Zu (by omega))) rfl ?_
    refine ya rfl rfl (Zd (ρ' := [(8, _)]) ⟨rfl, trivial⟩ ?_)
    refine Zb (Zv ?_)
    refine Zav (.tmp rfl) ?_
    first | exact ⟨-1, rfl, by decide, by decide⟩ | exact ⟨_, rfl, by omega, by omega⟩
def PtV (r : Value) (z : Nat) : Prop := ∃ C N : Int, r = .agg #[.int .i64 C, .int .i64 N] ∧ -1000000000 ≤ C ∧ C ≤ 1000000000 ∧ 1 ≤ N ∧ N ≤ 4
theorem kthree_fn (s : Bs) (i : Nat) (hlt : i < s.length) (hs : s.length ≤ 1000000000) (u : View) : FnP Tryz.prog 127 [str s, .int .i64 i] u fun r _ => PtV r 0 := by
 obtain ⟨c, hc, hc2⟩ := byte_at hlt
 refine FnP.intro [.cell 4 127] Tryz.func127 rfl rfl rfl ?_
 intro w0 D hw0
 refine Zc (Za (Zq rfl rfl ?_))
 refine Zax trivial Tryz.z127 rfl rfl rfl ?_
 refine Zd (ρ' := [(0, _), (1, _), (4, _)]) ⟨rfl, rfl, rfl, trivial⟩ ?_
 refine Zb (Zc (Za (ym rfl rfl (ym rfl rfl (Zf (Zao rfl Tryz.str9 rfl rfl (by first | rfl | omega) (by assumption)) rfl ?_)))))
 refine Zf (y_conv rfl Tryz.u5 Tryz.u3 rfl (Zu (by omega))) rfl ?_
 refine ya rfl rfl (Zd (ρ' := [(0, _), (1, _), (4, _), (5, _)]) ⟨rfl, rfl, rfl, rfl, trivial⟩ ?_)
 refine Zb (Zc (Za (ya rfl rfl (Zd (ρ' := [(0, _), (1, _), (4, _), (5, _), (6, _)]) ⟨rfl, rfl, rfl, rfl, rfl, trivial⟩ ?_))))
 refine Zb (Zc (Za (ya rfl rfl (Zd (ρ' := [(0, _), (1, _), (4, _), (5, _), (6, _), (7, _)]) ⟨rfl, rfl, rfl, rfl, rfl, rfl, trivial⟩ ?_))))
 refine Zb ?_
 refine Zbv (fun ρ σ uc6 => ∃ (lo : Int), VLe u uc6 ∧ σ = [(4, (none, .box [.int .i64 0, .int .i64 0]))] ∧ ρ = [(0, .v (str s)), (1, .v (.int .i64 i)), (4, .p 4 0), (5, .v (.int .i64 c.toNat)), (6, .v (.int .i64 lo)), (7, .v (.int .i64 191))] ∧ (u = uc6)) ?_ ?_
 ·
  refine Zc (Za (ym rfl rfl (Zf (Zay rfl rfl rfl) rfl ?_)))
  refine Zd (ρ' := [(0, _), (1, _), (4, _), (5, _), (6, _), (7, _), (15, _)]) ⟨rfl, rfl, rfl, rfl, rfl, rfl, rfl, trivial⟩ ?_
  refine Zb ?_
  refine Zn rfl (fun hb4 => ?_) (fun hb4 => ?_)
  ·
   refine Za (ya rfl rfl (Zd (ρ' := [(0, _), (1, _), (4, _), (5, _), (6, _), (7, _)]) ⟨rfl, rfl, rfl, rfl, rfl, rfl, trivial⟩ ?_))
   refine Zae ?_
   first
    | (refine ⟨[(0, _), (1, _), (4, _), (5, _), (6, _), (7, _)], [(4, _)], ⟨rfl, rfl, rfl, rfl, rfl, rfl, trivial⟩, ⟨rfl, trivial⟩, 160, (VLe.refl _), rfl, rfl, ?_⟩
       rfl)
    | (refine ⟨[(0, _), (1, _), (4, _), (5, _), (6, _), (7, _)], [(4, _)], ⟨rfl, rfl, rfl, rfl, rfl, rfl, trivial⟩, ⟨rfl, trivial⟩, 128, (VLe.refl _), rfl, rfl, ?_⟩
       rfl)
  ·
   refine Zs (Zae ?_)
   first
    | (refine ⟨[(0, _), (1, _), (4, _), (5, _), (6, _), (7, _)], [(4, _)], ⟨rfl, rfl, rfl, rfl, rfl, rfl, trivial⟩, ⟨rfl, trivial⟩, 160, (VLe.refl _), rfl, rfl, ?_⟩
       rfl)
    | (refine ⟨[(0, _), (1, _), (4, _), (5, _), (6, _), (7, _)], [(4, _)], ⟨rfl, rfl, rfl, rfl, rfl, rfl, trivial⟩, ⟨rfl, trivial⟩, 128, (VLe.refl _), rfl, rfl, ?_⟩
       rfl)
 ·
  rintro ρ σ uc6 ⟨lo, hlc6, rfl, rfl, rfl⟩
  refine Zbv (fun ρ σ uc8 => ∃ (hi : Int), VLe u uc8 ∧ σ = [(4, (none, .box [.int .i64 0, .int .i64 0]))] ∧ ρ = [(0, .v (str s)), (1, .v (.int .i64 i)), (4, .p 4 0), (5, .v (.int .i64 c.toNat)), (6, .v (.int .i64 lo)), (7, .v (.int .i64 hi))] ∧ (u = uc8)) ?_ ?_
  ·
   refine Zc (Za (ym rfl rfl (Zf (Zay rfl rfl rfl) rfl ?_)))
   refine Zd (ρ' := [(0, _), (1, _), (4, _), (5, _), (6, _), (7, _), (17, _)]) ⟨rfl, rfl, rfl, rfl, rfl, rfl, rfl, trivial⟩ ?_
   refine Zb ?_
   refine Zn rfl (fun hb6 => ?_) (fun hb6 => ?_)
   ·
    refine Za (ya rfl rfl (Zd (ρ' := [(0, _), (1, _), (4, _), (5, _), (6, _), (7, _)]) ⟨rfl, rfl, rfl, rfl, rfl, rfl, trivial⟩ ?_))
    refine Zae ?_
    first
     | (refine ⟨[(0, _), (1, _), (4, _), (5, _), (6, _), (7, _)], [(4, _)], ⟨rfl, rfl, rfl, rfl, rfl, rfl, trivial⟩, ⟨rfl, trivial⟩, 159, (VLe.refl _), rfl, rfl, ?_⟩
        rfl)
     | (refine ⟨[(0, _), (1, _), (4, _), (5, _), (6, _), (7, _)], [(4, _)], ⟨rfl, rfl, rfl, rfl, rfl, rfl, trivial⟩, ⟨rfl, trivial⟩, 191, (VLe.refl _), rfl, rfl, ?_⟩
        rfl)
   ·
    refine Zs (Zae ?_)
    first
     | (refine ⟨[(0, _), (1, _), (4, _), (5, _), (6, _), (7, _)], [(4, _)], ⟨rfl, rfl, rfl, rfl, rfl, rfl, trivial⟩, ⟨rfl, trivial⟩, 159, (VLe.refl _), rfl, rfl, ?_⟩
        rfl)
     | (refine ⟨[(0, _), (1, _), (4, _), (5, _), (6, _), (7, _)], [(4, _)], ⟨rfl, rfl, rfl, rfl, rfl, rfl, trivial⟩, ⟨rfl, trivial⟩, 191, (VLe.refl _), rfl, rfl, ?_⟩
        rfl)
  ·
   rintro ρ σ uc8 ⟨hi, hlc8, rfl, rfl, rfl⟩
   refine Zc (Za (ym rfl rfl (ym rfl rfl (Zf (Zas rfl rfl rfl (Zu (by omega))) rfl ?_))))
   refine ym rfl rfl (ym rfl rfl (Zq rfl rfl ?_))
   refine Zw (caps := []) trivial rfl rfl Tryz.c126 rfl (FnP.mono (kmore_fn s (i + 1) lo hi (by omega) (by omega) u) ?_)
   rintro v u1 hle1 ⟨x, rfl, hx1, hx2⟩
   refine ya rfl rfl (Zd (ρ' := [(0, _), (1, _), (4, _), (5, _), (8, _)]) ⟨rfl, rfl, rfl, rfl, rfl, trivial⟩ ?_)
   refine Zb (Zc (Za (ym rfl rfl (ym rfl rfl (Zf (Zas rfl rfl rfl (Zu (by omega))) rfl ?_)))))
   refine Zq rfl rfl ?_
   refine Zw (caps := []) trivial rfl rfl Tryz.c126 rfl (FnP.mono (kmore_fn s (i + 2) 128 191 (by omega) (by omega) u) ?_)
   rintro v u1 hle1 ⟨y, rfl, hy1, hy2⟩
   refine ya rfl rfl (Zd (ρ' := [(4, _), (5, _), (8, _), (9, _)]) ⟨rfl, rfl, rfl, rfl, trivial⟩ ?_)
   refine Zb (Zc (Zc (Za (ym rfl rfl (Zf (Zbh rfl rfl rfl) rfl ?_)))))
   refine ym rfl rfl ?_
   refine Zad 30 rfl (fun hg10_2 => ?_) (fun hg10_2 => ?_)
   ·
    refine Zo rfl rfl rfl rfl (Zo rfl rfl rfl rfl (Zf (Zl rfl rfl rfl) rfl (Zd (ρ' := [(4, _), (5, _), (8, _), (9, _), (33, _)]) ⟨rfl, rfl, rfl, rfl, rfl, trivial⟩ ?_)))
    refine Zb ?_
    refine Zce rfl (rfl) ?_
    refine Zc (Za (Zf (Zbe rfl Tryz.f127' Tryz.z127 (ps := [(_, _), (_, _)]) rfl (vs := [_, _]) rfl) rfl ?_))
    refine Zq rfl rfl ?_
    refine Zt trivial rfl Tryz.k127 rfl rfl rfl (vs := [_, _]) rfl rfl (by first | rfl | assumption | simp [Value.oneCell', str]) (Nat.le_of_ble_eq_true rfl) rfl ?_
    refine Zd (ρ' := [(4, _)]) ⟨rfl, trivial⟩ ?_
    refine Zb (Zv (Zh ?_))
    refine Zav (.cell rfl rfl Tryz.k127 (cs := _) (vs := [_, _]) rfl rfl rfl) ?_
    first | exact ⟨_, _, rfl, by decide, by decide, by decide, by decide⟩ | exact ⟨_, _, rfl, by omega, by omega, by decide, by decide⟩
   ·
    refine Zk rfl rfl (ym rfl rfl (Zk rfl rfl (Zf (Zbh rfl rfl rfl) rfl ?_)))
    refine Zf (Zm rfl rfl rfl) rfl (Zd (ρ' := [(4, _), (5, _), (8, _), (9, _), (33, _)]) ⟨rfl, rfl, rfl, rfl, rfl, trivial⟩ ?_)
    refine Zb ?_
    refine Zn rfl (fun hb11 => ?_) (fun hb11 => ?_)
    ·
     refine Zc (Za (Zf (Zbe rfl Tryz.f127' Tryz.z127 (ps := [(_, _), (_, _)]) rfl (vs := [_, _]) rfl) rfl ?_))
     refine Zq rfl rfl ?_
     refine Zt trivial rfl Tryz.k127 rfl rfl rfl (vs := [_, _]) rfl rfl (by first | rfl | assumption | simp [Value.oneCell', str]) (Nat.le_of_ble_eq_true rfl) rfl ?_
     refine Zd (ρ' := [(4, _)]) ⟨rfl, trivial⟩ ?_
     refine Zb (Zv (Zh ?_))
     refine Zav (.cell rfl rfl Tryz.k127 (cs := _) (vs := [_, _]) rfl rfl rfl) ?_
     first | exact ⟨_, _, rfl, by decide, by decide, by decide, by decide⟩ | exact ⟨_, _, rfl, by omega, by omega, by decide, by decide⟩
    ·
     refine Zs (Zb (Zc (Za (ym rfl rfl (Zf (y_sub rfl rfl rfl (Zu (by omega))) rfl ?_)))))
     refine Zf (y_mul rfl rfl rfl (Zu (by omega))) rfl ?_
     refine ym rfl rfl (Zf (y_mul rfl rfl rfl (Zu (by omega))) rfl ?_)
     refine Zf (Zas rfl rfl rfl (Zu (by omega))) rfl ?_
     refine ym rfl rfl (Zf (Zas rfl rfl rfl (Zu (by omega))) rfl ?_)
     refine Zf (Zbe rfl Tryz.f127' Tryz.z127 (ps := [(_, _), (_, _)]) rfl (vs := [_, _]) rfl) rfl ?_
     refine Zq rfl rfl ?_
     refine Zt trivial rfl Tryz.k127 rfl rfl rfl (vs := [_, _]) rfl rfl (by first | rfl | assumption | simp [Value.oneCell', str]) (Nat.le_of_ble_eq_true rfl) rfl ?_
     refine Zd (ρ' := [(4, _)]) ⟨rfl, trivial⟩ ?_
     refine Zb (Zv ?_)
     refine Zav (.cell rfl rfl Tryz.k127 (cs := _) (vs := [_, _]) rfl rfl rfl) ?_
     first | exact ⟨_, _, rfl, by decide, by decide, by decide, by decide⟩ | exact ⟨_, _, rfl, by omega, by omega, by decide, by decide⟩
theorem kfour_fn (s : Bs) (i : Nat) (hlt : i < s.length) (hs : s.length ≤ 1000000000) (u : View) : FnP Tryz.prog 128 [str s, .int .i64 i] u fun r _ => PtV r 0 := by
 obtain ⟨c, hc, hc2⟩ := byte_at hlt
 refine FnP.intro [.cell 4 127] Tryz.func128 rfl rfl rfl ?_
 intro w0 D hw0
 refine Zc (Za (Zq rfl rfl ?_))
 refine Zax trivial Tryz.z127 rfl rfl rfl ?_
 refine Zd (ρ' := [(0, _), (1, _), (4, _)]) ⟨rfl, rfl, rfl, trivial⟩ ?_
 refine Zb (Zc (Za (ym rfl rfl (ym rfl rfl (Zf (Zao rfl Tryz.str9 rfl rfl (by first | rfl | omega) (by assumption)) rfl ?_)))))
 refine Zf (y_conv rfl Tryz.u5 Tryz.u3 rfl (Zu (by omega))) rfl ?_
 refine ya rfl rfl (Zd (ρ' := [(0, _), (1, _), (4, _), (5, _)]) ⟨rfl, rfl, rfl, rfl, trivial⟩ ?_)
 refine Zb (Zc (Za (ya rfl rfl (Zd (ρ' := [(0, _), (1, _), (4, _), (5, _), (6, _)]) ⟨rfl, rfl, rfl, rfl, rfl, trivial⟩ ?_))))
 refine Zb (Zc (Za (ya rfl rfl (Zd (ρ' := [(0, _), (1, _), (4, _), (5, _), (6, _), (7, _)]) ⟨rfl, rfl, rfl, rfl, rfl, rfl, trivial⟩ ?_))))
 refine Zb ?_
 refine Zbv (fun ρ σ uc6 => ∃ (lo : Int), VLe u uc6 ∧ σ = [(4, (none, .box [.int .i64 0, .int .i64 0]))] ∧ ρ = [(0, .v (str s)), (1, .v (.int .i64 i)), (4, .p 4 0), (5, .v (.int .i64 c.toNat)), (6, .v (.int .i64 lo)), (7, .v (.int .i64 191))] ∧ (u = uc6)) ?_ ?_
 ·
  refine Zc (Za (ym rfl rfl (Zf (Zay rfl rfl rfl) rfl ?_)))
  refine Zd (ρ' := [(0, _), (1, _), (4, _), (5, _), (6, _), (7, _), (16, _)]) ⟨rfl, rfl, rfl, rfl, rfl, rfl, rfl, trivial⟩ ?_
  refine Zb ?_
  refine Zn rfl (fun hb4 => ?_) (fun hb4 => ?_)
  ·
   refine Za (ya rfl rfl (Zd (ρ' := [(0, _), (1, _), (4, _), (5, _), (6, _), (7, _)]) ⟨rfl, rfl, rfl, rfl, rfl, rfl, trivial⟩ ?_))
   refine Zae ?_
   first
    | (refine ⟨[(0, _), (1, _), (4, _), (5, _), (6, _), (7, _)], [(4, _)], ⟨rfl, rfl, rfl, rfl, rfl, rfl, trivial⟩, ⟨rfl, trivial⟩, 144, (VLe.refl _), rfl, rfl, ?_⟩
       rfl)
    | (refine ⟨[(0, _), (1, _), (4, _), (5, _), (6, _), (7, _)], [(4, _)], ⟨rfl, rfl, rfl, rfl, rfl, rfl, trivial⟩, ⟨rfl, trivial⟩, 128, (VLe.refl _), rfl, rfl, ?_⟩
       rfl)
  ·
   refine Zs (Zae ?_)
   first
    | (refine ⟨[(0, _), (1, _), (4, _), (5, _), (6, _), (7, _)], [(4, _)], ⟨rfl, rfl, rfl, rfl, rfl, rfl, trivial⟩, ⟨rfl, trivial⟩, 144, (VLe.refl _), rfl, rfl, ?_⟩
       rfl)
    | (refine ⟨[(0, _), (1, _), (4, _), (5, _), (6, _), (7, _)], [(4, _)], ⟨rfl, rfl, rfl, rfl, rfl, rfl, trivial⟩, ⟨rfl, trivial⟩, 128, (VLe.refl _), rfl, rfl, ?_⟩
       rfl)
 ·
  rintro ρ σ uc6 ⟨lo, hlc6, rfl, rfl, rfl⟩
  refine Zbv (fun ρ σ uc8 => ∃ (hi : Int), VLe u uc8 ∧ σ = [(4, (none, .box [.int .i64 0, .int .i64 0]))] ∧ ρ = [(0, .v (str s)), (1, .v (.int .i64 i)), (4, .p 4 0), (5, .v (.int .i64 c.toNat)), (6, .v (.int .i64 lo)), (7, .v (.int .i64 hi))] ∧ (u = uc8)) ?_ ?_
  ·
   refine Zc (Za (ym rfl rfl (Zf (Zay rfl rfl rfl) rfl ?_)))
   refine Zd (ρ' := [(0, _), (1, _), (4, _), (5, _), (6, _), (7, _), (18, _)]) ⟨rfl, rfl, rfl, rfl, rfl, rfl, rfl, trivial⟩ ?_
   refine Zb ?_
   refine Zn rfl (fun hb6 => ?_) (fun hb6 => ?_)
   ·
    refine Za (ya rfl rfl (Zd (ρ' := [(0, _), (1, _), (4, _), (5, _), (6, _), (7, _)]) ⟨rfl, rfl, rfl, rfl, rfl, rfl, trivial⟩ ?_))
    refine Zae ?_
    first
     | (refine ⟨[(0, _), (1, _), (4, _), (5, _), (6, _), (7, _)], [(4, _)], ⟨rfl, rfl, rfl, rfl, rfl, rfl, trivial⟩, ⟨rfl, trivial⟩, 143, (VLe.refl _), rfl, rfl, ?_⟩
        rfl)
     | (refine ⟨[(0, _), (1, _), (4, _), (5, _), (6, _), (7, _)], [(4, _)], ⟨rfl, rfl, rfl, rfl, rfl, rfl, trivial⟩, ⟨rfl, trivial⟩, 191, (VLe.refl _), rfl, rfl, ?_⟩
        rfl)
   ·
    refine Zs (Zae ?_)
    first
     | (refine ⟨[(0, _), (1, _), (4, _), (5, _), (6, _), (7, _)], [(4, _)], ⟨rfl, rfl, rfl, rfl, rfl, rfl, trivial⟩, ⟨rfl, trivial⟩, 143, (VLe.refl _), rfl, rfl, ?_⟩
        rfl)
     | (refine ⟨[(0, _), (1, _), (4, _), (5, _), (6, _), (7, _)], [(4, _)], ⟨rfl, rfl, rfl, rfl, rfl, rfl, trivial⟩, ⟨rfl, trivial⟩, 191, (VLe.refl _), rfl, rfl, ?_⟩
        rfl)
  ·
   rintro ρ σ uc8 ⟨hi, hlc8, rfl, rfl, rfl⟩
   refine Zc (Za (ym rfl rfl (ym rfl rfl (Zf (Zas rfl rfl rfl (Zu (by omega))) rfl ?_))))
   refine ym rfl rfl (ym rfl rfl (Zq rfl rfl ?_))
   refine Zw (caps := []) trivial rfl rfl Tryz.c126 rfl (FnP.mono (kmore_fn s (i + 1) lo hi (by omega) (by omega) u) ?_)
   rintro v u1 hle1 ⟨x, rfl, hx1, hx2⟩
   refine ya rfl rfl (Zd (ρ' := [(0, _), (1, _), (4, _), (5, _), (8, _)]) ⟨rfl, rfl, rfl, rfl, rfl, trivial⟩ ?_)
   refine Zb (Zc (Za (ym rfl rfl (ym rfl rfl (Zf (Zas rfl rfl rfl (Zu (by omega))) rfl ?_)))))
   refine Zq rfl rfl ?_
   refine Zw (caps := []) trivial rfl rfl Tryz.c126 rfl (FnP.mono (kmore_fn s (i + 2) 128 191 (by omega) (by omega) u) ?_)
   rintro v u1 hle1 ⟨y, rfl, hy1, hy2⟩
   refine ya rfl rfl (Zd (ρ' := [(0, _), (1, _), (4, _), (5, _), (8, _), (9, _)]) ⟨rfl, rfl, rfl, rfl, rfl, rfl, trivial⟩ ?_)
   refine Zb (Zc (Za (ym rfl rfl (ym rfl rfl (Zf (Zas rfl rfl rfl (Zu (by omega))) rfl ?_)))))
   refine Zq rfl rfl ?_
   refine Zw (caps := []) trivial rfl rfl Tryz.c126 rfl (FnP.mono (kmore_fn s (i + 3) 128 191 (by omega) (by omega) u) ?_)
   rintro v u1 hle1 ⟨z, rfl, hz1, hz2⟩
   refine ya rfl rfl (Zd (ρ' := [(4, _), (5, _), (8, _), (9, _), (10, _)]) ⟨rfl, rfl, rfl, rfl, rfl, trivial⟩ ?_)
   refine Zb (Zc (Zc (Za (ym rfl rfl (Zf (Zbh rfl rfl rfl) rfl ?_)))))
   refine ym rfl rfl ?_
   refine Zad 35 rfl (fun hg11_2 => ?_) (fun hg11_2 => ?_)
   ·
    refine Zo rfl rfl rfl rfl (Zo rfl rfl rfl rfl (Zf (Zl rfl rfl rfl) rfl (ym rfl rfl (Zo rfl rfl rfl rfl (Zo rfl rfl rfl rfl (Zf (Zl rfl rfl rfl) rfl (Zd (ρ' := [(4, _), (5, _), (8, _), (9, _), (10, _), (42, _)]) ⟨rfl, rfl, rfl, rfl, rfl, rfl, trivial⟩ ?_)))))))
    refine Zb ?_
    refine Zce rfl (rfl) ?_
    refine Zc (Za (Zf (Zbe rfl Tryz.f127' Tryz.z127 (ps := [(_, _), (_, _)]) rfl (vs := [_, _]) rfl) rfl ?_))
    refine Zq rfl rfl ?_
    refine Zt trivial rfl Tryz.k127 rfl rfl rfl (vs := [_, _]) rfl rfl (by first | rfl | assumption | simp [Value.oneCell', str]) (Nat.le_of_ble_eq_true rfl) rfl ?_
    refine Zd (ρ' := [(4, _)]) ⟨rfl, trivial⟩ ?_
    refine Zb (Zv (Zh ?_))
    refine Zav (.cell rfl rfl Tryz.k127 (cs := _) (vs := [_, _]) rfl rfl rfl) ?_
    first | exact ⟨_, _, rfl, by decide, by decide, by decide, by decide⟩ | exact ⟨_, _, rfl, by omega, by omega, by decide, by decide⟩
   ·
    refine Zk rfl rfl (ym rfl rfl (Zk rfl rfl (Zf (Zbh rfl rfl rfl) rfl ?_)))
    refine Zf (Zm rfl rfl rfl) rfl (ym rfl rfl ?_)
    refine Zad 39 rfl (fun hg11_6 => ?_) (fun hg11_6 => ?_)
    ·
     refine Zo rfl rfl rfl rfl (Zo rfl rfl rfl rfl (Zf (Zl rfl rfl rfl) rfl (Zd (ρ' := [(4, _), (5, _), (8, _), (9, _), (10, _), (42, _)]) ⟨rfl, rfl, rfl, rfl, rfl, rfl, trivial⟩ ?_)))
     refine Zb ?_
     refine Zce rfl (rfl) ?_
     refine Zc (Za (Zf (Zbe rfl Tryz.f127' Tryz.z127 (ps := [(_, _), (_, _)]) rfl (vs := [_, _]) rfl) rfl ?_))
     refine Zq rfl rfl ?_
     refine Zt trivial rfl Tryz.k127 rfl rfl rfl (vs := [_, _]) rfl rfl (by first | rfl | assumption | simp [Value.oneCell', str]) (Nat.le_of_ble_eq_true rfl) rfl ?_
     refine Zd (ρ' := [(4, _)]) ⟨rfl, trivial⟩ ?_
     refine Zb (Zv (Zh ?_))
     refine Zav (.cell rfl rfl Tryz.k127 (cs := _) (vs := [_, _]) rfl rfl rfl) ?_
     first | exact ⟨_, _, rfl, by decide, by decide, by decide, by decide⟩ | exact ⟨_, _, rfl, by omega, by omega, by decide, by decide⟩
    ·
     refine Zk rfl rfl (ym rfl rfl (Zk rfl rfl (Zf (Zbh rfl rfl rfl) rfl ?_)))
     refine Zf (Zm rfl rfl rfl) rfl (Zd (ρ' := [(4, _), (5, _), (8, _), (9, _), (10, _), (42, _)]) ⟨rfl, rfl, rfl, rfl, rfl, rfl, trivial⟩ ?_)
     refine Zb ?_
     refine Zn rfl (fun hb12 => ?_) (fun hb12 => ?_)
     ·
      refine Zc (Za (Zf (Zbe rfl Tryz.f127' Tryz.z127 (ps := [(_, _), (_, _)]) rfl (vs := [_, _]) rfl) rfl ?_))
      refine Zq rfl rfl ?_
      refine Zt trivial rfl Tryz.k127 rfl rfl rfl (vs := [_, _]) rfl rfl (by first | rfl | assumption | simp [Value.oneCell', str]) (Nat.le_of_ble_eq_true rfl) rfl ?_
      refine Zd (ρ' := [(4, _)]) ⟨rfl, trivial⟩ ?_
      refine Zb (Zv (Zh ?_))
      refine Zav (.cell rfl rfl Tryz.k127 (cs := _) (vs := [_, _]) rfl rfl rfl) ?_
      first | exact ⟨_, _, rfl, by decide, by decide, by decide, by decide⟩ | exact ⟨_, _, rfl, by omega, by omega, by decide, by decide⟩
     ·
      refine Zs (Zb (Zc (Za (ym rfl rfl (Zf (y_sub rfl rfl rfl (Zu (by omega))) rfl ?_)))))
      refine Zf (y_mul rfl rfl rfl (Zu (by omega))) rfl ?_
      refine ym rfl rfl (Zf (y_mul rfl rfl rfl (Zu (by omega))) rfl ?_)
      refine Zf (Zas rfl rfl rfl (Zu (by omega))) rfl ?_
      refine ym rfl rfl (Zf (y_mul rfl rfl rfl (Zu (by omega))) rfl ?_)
      refine Zf (Zas rfl rfl rfl (Zu (by omega))) rfl ?_
      refine ym rfl rfl (Zf (Zas rfl rfl rfl (Zu (by omega))) rfl ?_)
      refine Zf (Zbe rfl Tryz.f127' Tryz.z127 (ps := [(_, _), (_, _)]) rfl (vs := [_, _]) rfl) rfl ?_
      refine Zq rfl rfl ?_
      refine Zt trivial rfl Tryz.k127 rfl rfl rfl (vs := [_, _]) rfl rfl (by first | rfl | assumption | simp [Value.oneCell', str]) (Nat.le_of_ble_eq_true rfl) rfl ?_
      refine Zd (ρ' := [(4, _)]) ⟨rfl, trivial⟩ ?_
      refine Zb (Zv ?_)
      refine Zav (.cell rfl rfl Tryz.k127 (cs := _) (vs := [_, _]) rfl rfl rfl) ?_
      first | exact ⟨_, _, rfl, by decide, by decide, by decide, by decide⟩ | exact ⟨_, _, rfl, by omega, by omega, by decide, by decide⟩
theorem kat_fn (s : Bs) (i : Nat) (hlt : i < s.length) (hs : s.length ≤ 1000000000) (u : View) : FnP Tryz.prog 110 [str s, .int .i64 i] u fun r _ => PtV r 0 := by
 obtain ⟨c, hc, hc2⟩ := byte_at hlt
 refine FnP.intro [.cell 4 127] Tryz.func110 rfl rfl rfl ?_
 intro w0 D hw0
 refine Zc (Za (Zq rfl rfl ?_))
 refine Zax trivial Tryz.z127 rfl rfl rfl ?_
 refine Zd (ρ' := [(0, _), (1, _), (4, _)]) ⟨rfl, rfl, rfl, trivial⟩ ?_
 refine Zb (Zc (Za (ym rfl rfl (ym rfl rfl (Zf (Zao rfl Tryz.str9 rfl rfl (by first | rfl | omega) (by assumption)) rfl ?_)))))
 refine Zf (y_conv rfl Tryz.u5 Tryz.u3 rfl (Zu (by omega))) rfl ?_
 refine ya rfl rfl (Zd (ρ' := [(0, _), (1, _), (4, _), (5, _)]) ⟨rfl, rfl, rfl, rfl, trivial⟩ ?_)
 refine Zb (Zc (Zaa (Zc (Za (ym rfl rfl (Zf (Zbh rfl rfl rfl) rfl ?_))))))
 refine ya rfl rfl (Zd (ρ' := [(0, _), (1, _), (4, _), (5, _), (11, _)]) ⟨rfl, rfl, rfl, rfl, rfl, trivial⟩ ?_)
 refine Zb ?_
 refine Zn rfl (fun hb2 => ?_) (fun hb2 => ?_)
 ·
  refine Zc (Za (ym rfl rfl (Zf (Zbe rfl Tryz.f127' Tryz.z127 (ps := [(_, _), (_, _)]) rfl (vs := [_, _]) rfl) rfl ?_)))
  refine Zq rfl rfl ?_
  refine Zt trivial rfl Tryz.k127 rfl rfl rfl (vs := [_, _]) rfl rfl (by first | rfl | assumption | simp [Value.oneCell', str]) (Nat.le_of_ble_eq_true rfl) rfl ?_
  refine Zd (ρ' := [(4, _)]) ⟨rfl, trivial⟩ ?_
  refine Zb (Zv (Zr (Zh ?_)))
  refine Zav (.cell rfl rfl Tryz.k127 (cs := _) (vs := [_, _]) rfl rfl rfl) ?_
  first | exact ⟨_, _, rfl, by decide, by decide, by decide, by decide⟩ | exact ⟨_, _, rfl, by omega, by omega, by omega, by omega⟩
 ·
  refine Zc (Za ?_)
  refine Zbc 6 22 (fun _ => True) (ρk := [(0, _), (1, _), (4, _), (5, _)]) ⟨rfl, rfl, rfl, rfl, trivial⟩ ?_ fun mb4_5 hm4_5 => ?_
  ·
   refine ym rfl rfl (Zf (Zbw rfl rfl rfl) rfl ?_)
   refine ym rfl rfl ?_
   refine Zad 19 rfl (fun hg4_2 => ?_) (fun hg4_2 => ?_)
   ·
    refine Zk rfl rfl (ym rfl rfl (Zk rfl rfl (Zf (y_leq rfl rfl rfl) rfl ?_)))
    refine Zf (Zl rfl rfl rfl) rfl ?_
    exact Zx rfl ⟨rfl, rfl, rfl, rfl, trivial⟩ (trivial)
   ·
    refine Zo rfl rfl rfl rfl (Zo rfl rfl rfl rfl (Zf (Zm rfl rfl rfl) rfl ?_))
    exact Zx rfl ⟨rfl, rfl, rfl, rfl, trivial⟩ (trivial)
  refine ya rfl rfl (Zd (ρ' := [(0, _), (1, _), (4, _), (5, _), (16, _)]) ⟨rfl, rfl, rfl, rfl, rfl, trivial⟩ ?_)
  refine Zb ?_
  refine Zn rfl (fun hb4 => ?_) (fun hb4 => ?_)
  ·
   refine Zc (Za (ym rfl rfl (ym rfl rfl (Zf (Zas rfl rfl rfl (Zu (by omega))) rfl ?_))))
   refine Zq rfl rfl ?_
   refine Zw (caps := []) trivial rfl rfl Tryz.c126 rfl (FnP.mono (kmore_fn s (i + 1) 128 191 (by omega) (by omega) u) ?_)
   rintro v u1 hle1 ⟨x, rfl, hx1, hx2⟩
   refine ya rfl rfl (Zd (ρ' := [(4, _), (5, _), (6, _)]) ⟨rfl, rfl, rfl, trivial⟩ ?_)
   refine Zb (Zc (Za (ym rfl rfl (Zf (Zbw rfl rfl rfl) rfl ?_))))
   refine Zd (ρ' := [(4, _), (5, _), (6, _), (28, _)]) ⟨rfl, rfl, rfl, rfl, trivial⟩ ?_
   refine Zb ?_
   refine Zn rfl (fun hb6 => ?_) (fun hb6 => ?_)
   ·
    refine Zc (Za (ym rfl rfl (Zf (y_sub rfl rfl rfl (Zu (by omega))) rfl ?_)))
    refine Zf (y_mul rfl rfl rfl (Zu (by omega))) rfl ?_
    refine ym rfl rfl (Zf (Zas rfl rfl rfl (Zu (by omega))) rfl ?_)
    refine Zf (Zbe rfl Tryz.f127' Tryz.z127 (ps := [(_, _), (_, _)]) rfl (vs := [_, _]) rfl) rfl ?_
    refine Zq rfl rfl ?_
    refine Zt trivial rfl Tryz.k127 rfl rfl rfl (vs := [_, _]) rfl rfl (by first | rfl | assumption | simp [Value.oneCell', str]) (Nat.le_of_ble_eq_true rfl) rfl ?_
    refine Zd (ρ' := [(4, _)]) ⟨rfl, trivial⟩ ?_
    refine Zb (Zv (Zr (Zh ?_)))
    refine Zav (.cell rfl rfl Tryz.k127 (cs := _) (vs := [_, _]) rfl rfl rfl) ?_
    first | exact ⟨_, _, rfl, by decide, by decide, by decide, by decide⟩ | exact ⟨_, _, rfl, by omega, by omega, by omega, by omega⟩
   ·
    refine Zs (Zaf (Zb (Zc (Za (Zf (Zbe rfl Tryz.f127' Tryz.z127 (ps := [(_, _), (_, _)]) rfl (vs := [_, _]) rfl) rfl ?_)))))
    refine Zq rfl rfl ?_
    refine Zt trivial rfl Tryz.k127 rfl rfl rfl (vs := [_, _]) rfl rfl (by first | rfl | assumption | simp [Value.oneCell', str]) (Nat.le_of_ble_eq_true rfl) rfl ?_
    refine Zd (ρ' := [(4, _)]) ⟨rfl, trivial⟩ ?_
    refine Zb (Zv ?_)
    refine Zav (.cell rfl rfl Tryz.k127 (cs := _) (vs := [_, _]) rfl rfl rfl) ?_
    first | exact ⟨_, _, rfl, by decide, by decide, by decide, by decide⟩ | exact ⟨_, _, rfl, by omega, by omega, by omega, by omega⟩
  ·
   refine Zc (Za ?_)
   refine Zbc 6 41 (fun _ => True) (ρk := [(0, _), (1, _), (4, _), (5, _)]) ⟨rfl, rfl, rfl, rfl, trivial⟩ ?_ fun mb8_5 hm8_5 => ?_
   ·
    refine ym rfl rfl (Zf (Zbw rfl rfl rfl) rfl ?_)
    refine ym rfl rfl ?_
    refine Zad 38 rfl (fun hg8_2 => ?_) (fun hg8_2 => ?_)
    ·
     refine Zk rfl rfl (ym rfl rfl (Zk rfl rfl (Zf (y_leq rfl rfl rfl) rfl ?_)))
     refine Zf (Zl rfl rfl rfl) rfl ?_
     exact Zx rfl ⟨rfl, rfl, rfl, rfl, trivial⟩ (trivial)
    ·
     refine Zo rfl rfl rfl rfl (Zo rfl rfl rfl rfl (Zf (Zm rfl rfl rfl) rfl ?_))
     exact Zx rfl ⟨rfl, rfl, rfl, rfl, trivial⟩ (trivial)
   refine ya rfl rfl (Zd (ρ' := [(0, _), (1, _), (4, _), (5, _), (35, _)]) ⟨rfl, rfl, rfl, rfl, rfl, trivial⟩ ?_)
   refine Zb ?_
   refine Zn rfl (fun hb8 => ?_) (fun hb8 => ?_)
   ·
    refine Zc (Za (ym rfl rfl (ym rfl rfl (Zq rfl rfl ?_))))
    refine Zw (caps := []) trivial rfl rfl Tryz.c127 rfl (FnP.mono (kthree_fn s i hlt hs u) ?_)
    rintro v u1 hle1 ⟨C, N, rfl, hC1, hC2, hN1, hN2⟩
    refine Zq rfl rfl ?_
    refine Zt trivial rfl Tryz.k127 rfl rfl rfl (vs := [_, _]) rfl rfl (by first | rfl | assumption | simp [Value.oneCell', str]) (Nat.le_of_ble_eq_true rfl) rfl ?_
    refine Zd (ρ' := [(4, _)]) ⟨rfl, trivial⟩ ?_
    refine Zb (Zv (Zr (Zh ?_)))
    refine Zav (.cell rfl rfl Tryz.k127 (cs := _) (vs := [_, _]) rfl rfl rfl) ?_
    first | exact ⟨_, _, rfl, by decide, by decide, by decide, by decide⟩ | exact ⟨_, _, rfl, by omega, by omega, by omega, by omega⟩
   ·
    refine Zc (Za ?_)
    refine Zbc 6 51 (fun _ => True) (ρk := [(0, _), (1, _), (4, _)]) ⟨rfl, rfl, rfl, trivial⟩ ?_ fun mb10_5 hm10_5 => ?_
    ·
     refine ym rfl rfl (Zf (Zbw rfl rfl rfl) rfl ?_)
     refine ym rfl rfl ?_
     refine Zad 48 rfl (fun hg10_2 => ?_) (fun hg10_2 => ?_)
     ·
      refine Zk rfl rfl (ym rfl rfl (Zk rfl rfl (Zf (y_leq rfl rfl rfl) rfl ?_)))
      refine Zf (Zl rfl rfl rfl) rfl ?_
      exact Zx rfl ⟨rfl, rfl, rfl, trivial⟩ (trivial)
     ·
      refine Zo rfl rfl rfl rfl (Zo rfl rfl rfl rfl (Zf (Zm rfl rfl rfl) rfl ?_))
      exact Zx rfl ⟨rfl, rfl, rfl, trivial⟩ (trivial)
    refine ya rfl rfl (Zd (ρ' := [(0, _), (1, _), (4, _), (45, _)]) ⟨rfl, rfl, rfl, rfl, trivial⟩ ?_)
    refine Zb ?_
    refine Zn rfl (fun hb10 => ?_) (fun hb10 => ?_)
    ·
     refine Zc (Za (ym rfl rfl (ym rfl rfl (Zq rfl rfl ?_))))
     refine Zw (caps := []) trivial rfl rfl Tryz.c128 rfl (FnP.mono (kfour_fn s i hlt hs u) ?_)
     rintro v u1 hle1 ⟨C, N, rfl, hC1, hC2, hN1, hN2⟩
     refine Zq rfl rfl ?_
     refine Zt trivial rfl Tryz.k127 rfl rfl rfl (vs := [_, _]) rfl rfl (by first | rfl | assumption | simp [Value.oneCell', str]) (Nat.le_of_ble_eq_true rfl) rfl ?_
     refine Zd (ρ' := [(4, _)]) ⟨rfl, trivial⟩ ?_
     refine Zb (Zv (Zr (Zh ?_)))
     refine Zav (.cell rfl rfl Tryz.k127 (cs := _) (vs := [_, _]) rfl rfl rfl) ?_
     first | exact ⟨_, _, rfl, by decide, by decide, by decide, by decide⟩ | exact ⟨_, _, rfl, by omega, by omega, by omega, by omega⟩
    ·
     refine Zs (Zaf (Zb (Zc (Za (Zf (Zbe rfl Tryz.f127' Tryz.z127 (ps := [(_, _), (_, _)]) rfl (vs := [_, _]) rfl) rfl ?_)))))
     refine Zq rfl rfl ?_
     refine Zt trivial rfl Tryz.k127 rfl rfl rfl (vs := [_, _]) rfl rfl (by first | rfl | assumption | simp [Value.oneCell', str]) (Nat.le_of_ble_eq_true rfl) rfl ?_
     refine Zd (ρ' := [(4, _)]) ⟨rfl, trivial⟩ ?_
     refine Zb (Zv ?_)
     refine Zav (.cell rfl rfl Tryz.k127 (cs := _) (vs := [_, _]) rfl rfl rfl) ?_
     first | exact ⟨_, _, rfl, by decide, by decide, by decide, by decide⟩ | exact ⟨_, _, rfl, by omega, by omega, by omega, by omega⟩
theorem knext_fn (s : Bs) (i : Nat) (hlt : i < s.length) (hs : s.length ≤ 1000000000) (u : View) : FnP Tryz.prog 137 [str s, .int .i64 i] u fun r _ => ∃ C N : Int, r = .tuple #[.int .i64 C, .int .i64 N] ∧ -1000000000 ≤ C ∧ C ≤ 1000000000 ∧ 1 ≤ N ∧ N ≤ 4 := by
 refine FnP.intro [.tmp 4, .tmp 5] Tryz.func137 rfl rfl rfl ?_
 intro w0 D hw0
 refine Zc (Za (ya rfl rfl (ya rfl rfl (Zd (ρ' := [(0, _), (1, _)]) ⟨rfl, rfl, trivial⟩ ?_))))
 refine Zb (Zc (Zc (Za (ym rfl rfl (Zf (Zbh rfl rfl rfl) rfl ?_)))))
 refine ym rfl rfl ?_
 refine Zad 9 rfl (fun hg1_2 => ?_) (fun hg1_2 => ?_)
 ·
  iterate 4 refine Zo rfl rfl rfl rfl ?_
  refine Zf (Zl rfl rfl rfl) rfl (Zd (ρ' := [(0, _), (1, _), (14, _)]) ⟨rfl, rfl, rfl, trivial⟩ ?_)
  refine Zb ?_
  refine Zce rfl (rfl) ?_
  refine Zc (Za (ya rfl rfl (ya rfl rfl (Zd (ρ' := [(4, _), (5, _)]) ⟨rfl, rfl, trivial⟩ ?_))))
  refine Zb (Zv (Zh ?_))
  refine fin2 (.tmp rfl) (.tmp rfl) ?_
  first | exact ⟨_, _, rfl, hC1, hC2, hN1, hN2⟩ | (have h := of_decide_eq_true hg1_2; omega) | (have h := of_decide_eq_true hb2; omega)
 ·
  refine Zk rfl rfl (ym rfl rfl (Zk rfl rfl (ym rfl rfl (Zk rfl rfl (Zf (Zan rfl rfl Tryz.str9 rfl) rfl ?_)))))
  refine Zk rfl rfl (Zf (Zbw rfl rfl rfl) rfl ?_)
  refine Zf (Zm rfl rfl rfl) rfl (Zd (ρ' := [(0, _), (1, _), (14, _)]) ⟨rfl, rfl, rfl, trivial⟩ ?_)
  refine Zb ?_
  refine Zn rfl (fun hb2 => ?_) (fun hb2 => ?_)
  ·
   refine Zc (Za (ya rfl rfl (ya rfl rfl (Zd (ρ' := [(4, _), (5, _)]) ⟨rfl, rfl, trivial⟩ ?_))))
   refine Zb (Zv (Zh ?_))
   refine fin2 (.tmp rfl) (.tmp rfl) ?_
   first | exact ⟨_, _, rfl, hC1, hC2, hN1, hN2⟩ | (have h := of_decide_eq_true hg1_2; omega) | (have h := of_decide_eq_true hb2; omega)
  ·
   refine Zs (Zb (Zc (Za (ym rfl rfl (ym rfl rfl (Zq rfl rfl ?_))))))
   refine Zw (caps := []) trivial rfl rfl Tryz.c110 rfl (FnP.mono (kat_fn s i hlt hs u) ?_)
   rintro v u1 hle1 ⟨C, N, rfl, hC1, hC2, hN1, hN2⟩
   refine Zq rfl rfl ?_
   refine Zax trivial Tryz.z127 rfl rfl rfl ?_
   refine Zq rfl rfl ?_
   refine Zt trivial rfl Tryz.k127 rfl rfl rfl (vs := [_, _]) rfl rfl (by first | rfl | assumption | simp [Value.oneCell', str]) (Nat.le_of_ble_eq_true rfl) rfl ?_
   refine Zd (ρ' := [(6, _)]) ⟨rfl, trivial⟩ ?_
   refine Zb (Zc ?_)
   refine Zbu Tryz.mixed rfl [(6, _)] ⟨rfl, trivial⟩ ?_
   refine ra_y (i := 0) rfl (by kernel_rfl) (by kernel_rfl) (by kernel_rfl) (Ze (Zam)) (Zi rfl Tryz.f127' rfl (by decide) rfl) rfl ?_
   refine ra_y (i := 1) rfl (by kernel_rfl) (by kernel_rfl) (by kernel_rfl) (Ze (Zam)) (Zj rfl Tryz.k3 rfl rfl rfl (vs := [_]) rfl rfl rfl) rfl ?_
   refine ra_y (i := 2) rfl (by kernel_rfl) (by kernel_rfl) (by kernel_rfl) (Ze (Zam)) (Zi rfl Tryz.f127' rfl (by decide) rfl) rfl ?_
   refine ra_y (i := 3) rfl (by kernel_rfl) (by kernel_rfl) (by kernel_rfl) (Ze (Zam)) (Zj rfl Tryz.k3 rfl rfl rfl (vs := [_]) rfl rfl rfl) rfl ?_
   refine ra_y (i := 4) rfl (by kernel_rfl) (by kernel_rfl) (by kernel_rfl) (Ze (Zam)) (y_assign rfl rfl) rfl ?_
   refine ra_y (i := 5) rfl (by kernel_rfl) (by kernel_rfl) (by kernel_rfl) (Ze (Zam)) (y_assign rfl rfl) rfl ?_
   refine ra_end (by kernel_rfl) (ρ' := [(4, _), (5, _)]) ⟨rfl, rfl, trivial⟩ ?_
   refine Zb (Zv ?_)
   refine fin2 (.tmp rfl) (.tmp rfl) ?_
   first | exact ⟨_, _, rfl, hC1, hC2, hN1, hN2⟩ | (have h := of_decide_eq_true hg1_2; omega) | (have h := of_decide_eq_true hb2; omega)
def ptsC (l : List (Int × Int)) : List Value := l.flatMap fun p => [.int .i64 p.1, .int .i64 p.2]
theorem cut_ptsC {xs : List (Int × Int)} {i : Nat} {x : Int × Int} (h : xs[i]? = some x) : cut (ptsC xs) (i * 2) 2 = [.int .i64 x.1, .int .i64 x.2] := cut_flat (f := fun x : Int × Int => [.int .i64 x.1, .int .i64 x.2]) (fun _ => rfl) h
def intsC (l : List Int) : List Value := l.map (Value.int .i64)
theorem cut_intsC {xs : List Int} {i : Nat} {x : Int} (h : xs[i]? = some x) : cut (intsC xs) (i * 1) 1 = [.int .i64 x] := by
 obtain ⟨hlt, rfl⟩ := List.getElem?_eq_some_iff.1 h
 unfold cut intsC
 rw [Nat.mul_one, List.drop_eq_getElem_cons (by simpa using hlt)]
 simp
def Big (c : Int) : Prop := -1000000000 ≤ c ∧ c ≤ 1000000000
theorem kpoints_fn (s : Bs) (hs : s.length ≤ 100000000) (u : View) : FnP Tryz.prog 94 [str s] u fun r u' => ∃ l : List (Int × Int), IsSl u' r l.length 2 (ptsC l) ∧ l.length ≤ s.length ∧ ∀ p ∈ l, Big p.1 := by
 refine FnP.intro [.tmp 2] Tryz.func94 rfl rfl rfl ?_
 intro w0 D hw0
 refine Zc (Za (ya rfl rfl (Zd (ρ' := [(0, _)]) ⟨rfl, trivial⟩ ?_)))
 refine Zb (Zc (Za (ya rfl rfl ?_)))
 refine Zbz 3 503 127 2 rfl rfl rfl ?_
 refine Zd (ρ' := [(0, _), (3, _)]) ⟨rfl, rfl, trivial⟩ ?_
 refine Zb (Zc (Za (ya rfl rfl (Zd (ρ' := [(0, _), (3, _), (4, _)]) ⟨rfl, rfl, rfl, trivial⟩ ?_))))
 refine Zb (Zc (Zaa ?_))
 refine Zau (fun m ρ σ u' => ∃ i : Nat, i + m = s.length + 4 ∧ VLe u u' ∧ ∃ (l : List (Int × Int)), σ = [(503, (none, .row 127 2 l.length (ptsC l)))] ∧ ρ = [(0, .v (str s)), (3, .s 503), (4, .v (.int .i64 i))] ∧ (l.length ≤ i ∧ (∀ p ∈ l, Big p.1) ∧ (l = [] ∨ l.length ≤ s.length))) (s.length + 4) ?_ ?_
 ·
  refine ⟨[(0, _), (3, _), (4, _)], [(503, _)], ⟨rfl, rfl, rfl, trivial⟩, ⟨rfl, trivial⟩, 0, by omega, VLe.refl _, [], rfl, rfl, ?_⟩
  exact ⟨Nat.le_refl _, (fun p hp => by cases hp), .inl rfl⟩
 ·
  rintro m ρ σ u' ⟨i, hi3, hle3, l, rfl, rfl, ⟨hll, hlb, hls⟩⟩
  refine Zc (Zc (Za (ym rfl rfl (ym rfl rfl (Zf (Zan rfl rfl Tryz.str9 rfl) rfl ?_)))))
  refine Zf (Zbh rfl rfl rfl) rfl ?_
  refine Zd (ρ' := [(0, _), (3, _), (4, _), (9, _)]) ⟨rfl, rfl, rfl, rfl, trivial⟩ ?_
  refine Zb ?_
  refine Zn rfl (fun hb3 => ?_) (fun hb3 => ?_)
  ·
   have hlt : i < s.length := (by have := of_decide_eq_true hb3; omega)
   refine Zs (Zb (Zaa (Zc (Za (ym rfl rfl (ym rfl rfl (Zq rfl rfl ?_)))))))
   refine Zw (caps := []) trivial rfl rfl Tryz.c110 rfl (FnP.mono (kat_fn s i hlt (by omega) _) ?_)
   rintro v u1 hle1 ⟨C, N, rfl, hC1, hC2, hN1, hN2⟩
   refine Zq rfl rfl ?_
   refine Zax trivial Tryz.z127 rfl rfl rfl ?_
   refine Zq rfl rfl ?_
   refine Zt trivial rfl Tryz.k127 rfl rfl rfl (vs := [_, _]) rfl rfl (by first | rfl | assumption | simp [Value.oneCell', str]) (Nat.le_of_ble_eq_true rfl) rfl ?_
   refine Zd (ρ' := [(0, _), (3, _), (4, _), (5, _)]) ⟨rfl, rfl, rfl, rfl, trivial⟩ ?_
   refine Zb (Zc (Za (ym rfl rfl (Zf (Zj rfl Tryz.k127 rfl rfl rfl (vs := [_, _]) rfl rfl rfl) rfl ?_))))
   refine Zq rfl rfl ?_
   refine Zac trivial Tryz.s124 Tryz.z127 (ps := [(_, _)]) rfl (xs := [_, _]) rfl rfl rfl rfl rfl rfl rfl ?_
   refine Zq rfl rfl ?_
   refine Zbr trivial rfl rfl Tryz.s124 Tryz.z127 rfl rfl rfl rfl rfl rfl (by first | rfl | assumption | simp [Value.oneCell', str]) (by omega) (by omega) (ρ' := [(0, _), (4, _), (5, _)]) ⟨rfl, rfl, rfl, trivial⟩ rfl rfl rfl ?_
   refine ya rfl rfl ?_
   refine Zch 16 503 rfl rfl rfl ?_
   refine Zd (ρ' := [(0, _), (3, _), (4, _), (5, _)]) ⟨rfl, rfl, rfl, rfl, trivial⟩ ?_
   refine Zb (Za (ym rfl rfl (Zf (Zi rfl Tryz.f127' rfl (by decide) rfl) rfl ?_)))
   refine Zf (Zj rfl Tryz.k3 rfl rfl rfl (vs := [_]) rfl rfl rfl) rfl ?_
   refine Zf (Zas rfl rfl rfl (Zu (by omega))) rfl ?_
   refine ya rfl rfl (Zd (ρ' := [(0, _), (3, _), (4, _)]) ⟨rfl, rfl, rfl, trivial⟩ ?_)
   refine Zaf (Zae ?_)
   refine ⟨s.length + 4 - (i + N.toNat), [(0, _), (3, _), (4, _)], [(503, _)], by omega, ⟨rfl, rfl, rfl, trivial⟩, ⟨rfl, trivial⟩, i + N.toNat, by omega, hle3, l ++ [(C, N)], (by rw [List.length_append]; simp [ptsC]), (by rw [show ((i + N.toNat : Nat) : Int) = i + N by omega]; rfl), ?_⟩
   refine ⟨by rw [List.length_append]; simp; omega, ?_, by right; rw [List.length_append]; simp; omega⟩
   intro p hp
   rcases List.mem_append.1 hp with h | h
   ·
    exact hlb p h
   ·
    rw [List.mem_singleton.1 h]; exact ⟨hC1, hC2⟩
  ·
   refine Zat ?_
   refine Zp (Zp ?_)
   refine Zah ?_
   refine Zb (Zc (Za (ym rfl rfl ?_)))
   refine Zbm 503 rfl ?_
   intro ad503 cap503 u503 hle503z hsl503
   refine ya rfl rfl (Zd (ρ' := [(2, _)]) ⟨rfl, trivial⟩ ?_)
   refine Zb (Zv ?_)
   refine Zav (.tmp rfl) ?_
   refine ⟨l, ⟨_, _, rfl, hsl503⟩, ?_, hlb⟩
   rcases hls with h | h
   ·
    rw [h]; exact Nat.zero_le _
   ·
    exact h
theorem kclean_fn (c : Int) (u : View) : FnP Tryz.prog 95 [.int .i64 c] u fun r _ => ∃ b, r = .bool b := by
 refine FnP.intro [.tmp 2] Tryz.func95 rfl rfl rfl ?_
 intro w0 D hw0
 refine Zc (Za (ya rfl rfl (Zd (ρ' := [(0, _)]) ⟨rfl, trivial⟩ ?_)))
 refine Zb (Zc (Za (ym rfl rfl (Zf (Zay rfl rfl rfl) rfl ?_))))
 refine ym rfl rfl ?_
 refine Zad 5 rfl (fun hg1_2 => ?_) (fun hg1_2 => ?_)
 ·
  iterate 3 refine Zo rfl rfl rfl rfl ?_
  refine Zab rfl rfl rfl ?_
  refine Zab rfl rfl rfl ?_
  refine Zo rfl rfl rfl rfl (Zf (Zl rfl rfl rfl) rfl (ya rfl rfl (Zd (ρ' := [(2, _)]) ⟨rfl, trivial⟩ ?_)))
  refine Zb (Zv ?_)
  refine Zav (.tmp rfl) ?_
  exact ⟨_, rfl⟩
 ·
  refine Zk rfl rfl (ym rfl rfl (Zk rfl rfl (Zf (Zbw rfl rfl rfl) rfl ?_)))
  refine Zk rfl rfl (ym rfl rfl ?_)
  refine Zad 8 rfl (fun hg1_5 => ?_) (fun hg1_5 => ?_)
  ·
   refine Zk rfl rfl (ym rfl rfl (Zk rfl rfl (Zf (Zcc rfl rfl rfl) rfl ?_)))
   refine Zk rfl rfl (Zf (Zl rfl rfl rfl) rfl (Zf (Zm rfl rfl rfl) rfl (ya rfl rfl (Zd (ρ' := [(2, _)]) ⟨rfl, trivial⟩ ?_))))
   refine Zb (Zv ?_)
   refine Zav (.tmp rfl) ?_
   exact ⟨_, rfl⟩
  ·
   refine Zo rfl rfl rfl rfl (Zo rfl rfl rfl rfl (Zk rfl rfl (Zf (Zm rfl rfl rfl) rfl (Zf (Zm rfl rfl rfl) rfl (ya rfl rfl (Zd (ρ' := [(2, _)]) ⟨rfl, trivial⟩ ?_))))))
   refine Zb (Zv ?_)
   refine Zav (.tmp rfl) ?_
   exact ⟨_, rfl⟩
theorem kvalid_fn (s : Bs) (hs : s.length ≤ 100000000) (u : View) : FnP Tryz.prog 68 [str s] u fun r _ => ∃ b, r = .bool b := by
 refine FnP.intro [.tmp 2] Tryz.func68 rfl rfl rfl ?_
 intro w0 D hw0
 refine Zc (Za (ya rfl rfl (Zd (ρ' := [(0, _)]) ⟨rfl, trivial⟩ ?_)))
 refine Zb (Zc (Zc (Za (ym rfl rfl (Zq rfl rfl ?_)))))
 refine Zbb (caps := []) trivial rfl rfl Tryz.c94 rfl (FnP.mono (kpoints_fn s hs u) ?_)
 rintro v uP hle0 ⟨l, ⟨ad, cap, rfl, h1⟩, hl, hlb⟩ hleP
 refine Zf (Zal rfl rfl Tryz.s124 rfl) rfl ?_
 refine ym rfl rfl (Zd (ρ' := [(6, _), (7, _), (8, _)]) ⟨rfl, rfl, rfl, trivial⟩ ?_)
 refine Zb (Zaa ?_)
 refine Zau (fun m ρ σ u' => ∃ i : Nat, i + m = l.length ∧ VLe uP u' ∧ σ = [] ∧ ρ = [(6, .v (.slice ad l.length cap)), (7, .v (.int .i64 l.length)), (8, .v (.int .i64 i))] ∧ (uP = u')) (l.length) ?_ ?_
 ·
  refine ⟨[(6, _), (7, _), (8, _)], [], ⟨rfl, rfl, rfl, trivial⟩, trivial, 0, by omega, VLe.refl _, (by first | rfl | simp), (by first | rfl | (simp only [List.cons.injEq, Prod.mk.injEq, SV.v.injEq, Value.int.injEq, true_and, and_true]; omega) | simp), ?_⟩
  rfl
 ·
  rintro m ρ σ u' ⟨i, hi2, hle2, rfl, rfl, rfl⟩
  refine Zc (Za (Zf (Zbh rfl rfl rfl) rfl ?_))
  refine Zd (ρ' := [(6, _), (7, _), (8, _), (9, _)]) ⟨rfl, rfl, rfl, rfl, trivial⟩ ?_
  refine Zb (Zc ?_)
  refine Zn rfl (fun hb2 => ?_) (fun hb2 => ?_)
  ·
   have hlt : i < l.length := by have := of_decide_eq_true hb2; omega
   have hcc := cut_ptsC (List.getElem?_eq_getElem hlt)
   refine Zs (Zb (Zc (Zaa (Zc (Za (Zf (Zai rfl Tryz.s124 rfl rfl (by assumption) (by first | rfl | omega) (by omega)) rfl ?_))))))
   refine Zf (Zag rfl Tryz.k127 rfl (by assumption) (by omega) (by assumption) (vs := [_, _]) rfl rfl rfl rfl) rfl ?_
   refine Zq rfl rfl ?_
   refine Zax trivial Tryz.z127 rfl rfl rfl ?_
   refine Zq rfl rfl ?_
   refine Zt trivial rfl Tryz.k127 rfl rfl rfl (vs := [_, _]) rfl rfl (by first | rfl | assumption | simp [Value.oneCell', str]) (Nat.le_of_ble_eq_true rfl) rfl ?_
   refine Zd (ρ' := [(4, _), (6, _), (7, _), (8, _)]) ⟨rfl, rfl, rfl, rfl, trivial⟩ ?_
   refine Zb (Zc (Za (Zf (Zi rfl Tryz.f127' rfl (by decide) rfl) rfl ?_)))
   refine Zf (Zj rfl Tryz.k3 rfl rfl rfl (vs := [_]) rfl rfl rfl) rfl ?_
   refine Zq rfl rfl ?_
   refine Zw (caps := []) trivial rfl rfl Tryz.c95 rfl (FnP.mono (kclean_fn _ _) ?_)
   rintro v u1 hle1 ⟨b, rfl⟩
   refine Zf (Zbs rfl rfl) rfl ?_
   refine ym rfl rfl ?_
   refine Zad 16 rfl (fun hg4_4 => ?_) (fun hg4_4 => ?_)
   ·
    iterate 4 refine Zo rfl rfl rfl rfl ?_
    refine Zab rfl rfl rfl ?_
    refine Zab rfl rfl rfl ?_
    refine Zab rfl rfl rfl ?_
    refine Zo rfl rfl rfl rfl (Zf (Zl rfl rfl rfl) rfl (Zd (ρ' := [(6, _), (7, _), (8, _), (25, _)]) ⟨rfl, rfl, rfl, rfl, trivial⟩ ?_))
    refine Zb ?_
    refine Zce rfl (rfl) ?_
    refine Zc (Za (ya rfl rfl (Zd (ρ' := [(2, _)]) ⟨rfl, trivial⟩ ?_)))
    refine Zb (Zv (Zr (Zh (Zh (Zr (Zh ?_))))))
    refine Zav (.tmp rfl) ?_
    exact ⟨_, rfl⟩
   ·
    refine Zk rfl rfl (Zf (Zi rfl Tryz.f127' rfl (by decide) rfl) rfl ?_)
    refine Zk rfl rfl (Zf (Zj rfl Tryz.k3 rfl rfl rfl (vs := [_]) rfl rfl rfl) rfl ?_)
    refine Zk rfl rfl (Zf (Zay rfl rfl rfl) rfl ?_)
    refine Zk rfl rfl (ym rfl rfl ?_)
    refine Zad 20 rfl (fun hg4_8 => ?_) (fun hg4_8 => ?_)
    ·
     refine Zk rfl rfl (Zf (Zi rfl Tryz.f127' rfl (by decide) rfl) rfl ?_)
     refine Zk rfl rfl (Zf (Zj rfl Tryz.k3 rfl rfl rfl (vs := [_]) rfl rfl rfl) rfl ?_)
     refine Zk rfl rfl (Zf (Zay rfl rfl rfl) rfl ?_)
     refine Zk rfl rfl (Zf (Zl rfl rfl rfl) rfl (Zf (Zm rfl rfl rfl) rfl (Zd (ρ' := [(6, _), (7, _), (8, _), (25, _)]) ⟨rfl, rfl, rfl, rfl, trivial⟩ ?_)))
     refine Zb ?_
     refine Zn rfl (fun hb5 => ?_) (fun hb5 => ?_)
     ·
      refine Zc (Za (ya rfl rfl (Zd (ρ' := [(2, _)]) ⟨rfl, trivial⟩ ?_)))
      refine Zb (Zv (Zr (Zh (Zh (Zr (Zh ?_))))))
      refine Zav (.tmp rfl) ?_
      exact ⟨_, rfl⟩
     ·
      refine Zs (Zaf (Zb (Za (Zf (Zas rfl rfl rfl (Zu (by omega))) rfl ?_))))
      refine ym rfl rfl (Zd (ρ' := [(6, _), (7, _), (8, _)]) ⟨rfl, rfl, rfl, trivial⟩ ?_)
      refine Zae ?_
      refine ⟨m - 1, [(6, _), (7, _), (8, _)], [], by omega, ⟨rfl, rfl, rfl, trivial⟩, trivial, i + 1, by omega, hle2, (by first | rfl | simp), (by first | rfl | (simp only [List.cons.injEq, Prod.mk.injEq, SV.v.injEq, Value.int.injEq, true_and, and_true]; omega) | simp), ?_⟩
      rfl
    ·
     iterate 3 refine Zo rfl rfl rfl rfl ?_
     refine Zk rfl rfl (Zf (Zm rfl rfl rfl) rfl (Zf (Zm rfl rfl rfl) rfl (Zd (ρ' := [(6, _), (7, _), (8, _), (25, _)]) ⟨rfl, rfl, rfl, rfl, trivial⟩ ?_)))
     refine Zb ?_
     refine Zby rfl (rfl) ?_
     refine Zs (Zaf (Zb (Za (Zf (Zas rfl rfl rfl (Zu (by omega))) rfl ?_))))
     refine ym rfl rfl (Zd (ρ' := [(6, _), (7, _), (8, _)]) ⟨rfl, rfl, rfl, trivial⟩ ?_)
     refine Zae ?_
     refine ⟨m - 1, [(6, _), (7, _), (8, _)], [], by omega, ⟨rfl, rfl, rfl, trivial⟩, trivial, i + 1, by omega, hle2, (by first | rfl | simp), (by first | rfl | (simp only [List.cons.injEq, Prod.mk.injEq, SV.v.injEq, Value.int.injEq, true_and, and_true]; omega) | simp), ?_⟩
     rfl
  ·
   skip
   refine Zat ?_
   refine Zp (Zp ?_)
   refine Zah ?_
   refine Zb (Zc (Za (ya rfl rfl (Zd (ρ' := [(2, _)]) ⟨rfl, trivial⟩ ?_))))
   refine Zb (Zv ?_)
   refine Zav (.tmp rfl) ?_
   exact ⟨_, rfl⟩
theorem inr_fn (c : Int) (v : Value) (l : List (Int × Int)) (hl : l.length ≤ 1000) (u : View) (h : IsSl u v l.length 2 (ptsC l)) : FnP Tryz.prog 155 [.int .i64 c, v] u fun r _ => ∃ b, r = .bool b := by
 obtain ⟨ad, cap, rfl, h1⟩ := h
 refine FnP.intro [.tmp 4] Tryz.func155 rfl rfl rfl ?_
 intro w0 D hw0
 refine Zc (Za (ya rfl rfl (Zd (ρ' := [(0, _), (1, _)]) ⟨rfl, rfl, trivial⟩ ?_)))
 refine Zb (Zc (Zc (Za (ym rfl rfl (Zf (Zal rfl rfl Tryz.s180 rfl) rfl ?_)))))
 refine ym rfl rfl (Zd (ρ' := [(0, _), (7, _), (8, _), (9, _)]) ⟨rfl, rfl, rfl, rfl, trivial⟩ ?_)
 refine Zb (Zaa ?_)
 refine Zau (fun m ρ σ u' => ∃ i : Nat, i + m = l.length ∧ VLe u u' ∧ σ = [] ∧ ρ = [(0, .v (.int .i64 c)), (7, .v (.slice ad l.length cap)), (8, .v (.int .i64 l.length)), (9, .v (.int .i64 i))] ∧ (u = u')) (l.length) ?_ ?_
 ·
  refine ⟨[(0, _), (7, _), (8, _), (9, _)], [], ⟨rfl, rfl, rfl, rfl, trivial⟩, trivial, 0, by omega, VLe.refl _, (by first | rfl | simp), (by first | rfl | (simp only [List.cons.injEq, Prod.mk.injEq, SV.v.injEq, Value.int.injEq, true_and, and_true]; omega) | simp), ?_⟩
  rfl
 ·
  rintro m ρ σ u' ⟨i, hi2, hle2, rfl, rfl, rfl⟩
  refine Zc (Za (Zf (Zbh rfl rfl rfl) rfl ?_))
  refine Zd (ρ' := [(0, _), (7, _), (8, _), (9, _), (10, _)]) ⟨rfl, rfl, rfl, rfl, rfl, trivial⟩ ?_
  refine Zb (Zc ?_)
  refine Zn rfl (fun hb2 => ?_) (fun hb2 => ?_)
  ·
   have hlt : i < l.length := by have := of_decide_eq_true hb2; omega
   have hcc := cut_ptsC (List.getElem?_eq_getElem hlt)
   refine Zs (Zb (Zc (Zaa (Zc (Za (Zf (Zai rfl Tryz.s180 rfl rfl (by assumption) (by first | rfl | omega) (by omega)) rfl ?_))))))
   refine Zf (Zag rfl Tryz.k179 rfl (by assumption) (by omega) (by assumption) (vs := [_, _]) rfl rfl rfl rfl) rfl ?_
   refine Zq rfl rfl ?_
   refine Zax trivial Tryz.z179 rfl rfl rfl ?_
   refine Zq rfl rfl ?_
   refine Zt trivial rfl Tryz.k179 rfl rfl rfl (vs := [_, _]) rfl rfl (by first | rfl | assumption | simp [Value.oneCell', str]) (Nat.le_of_ble_eq_true rfl) rfl ?_
   refine Zd (ρ' := [(0, _), (6, _), (7, _), (8, _), (9, _)]) ⟨rfl, rfl, rfl, rfl, rfl, trivial⟩ ?_
   refine Zb (Zc (Za (ym rfl rfl (Zf (Zi rfl Tryz.f179' rfl (by decide) rfl) rfl ?_))))
   refine Zf (Zj rfl Tryz.k3 rfl rfl rfl (vs := [_]) rfl rfl rfl) rfl ?_
   refine Zf (Zbw rfl rfl rfl) rfl ?_
   refine ym rfl rfl ?_
   refine Zad 17 rfl (fun hg4_4 => ?_) (fun hg4_4 => ?_)
   ·
    refine Zk rfl rfl (ym rfl rfl (Zk rfl rfl (Zf (Zi rfl Tryz.f179' rfl (by decide) rfl) rfl ?_)))
    refine Zk rfl rfl (Zf (Zj rfl Tryz.k3 rfl rfl rfl (vs := [_]) rfl rfl rfl) rfl ?_)
    refine Zk rfl rfl (Zf (y_leq rfl rfl rfl) rfl ?_)
    refine Zf (Zl rfl rfl rfl) rfl (Zd (ρ' := [(0, _), (7, _), (8, _), (9, _), (22, _)]) ⟨rfl, rfl, rfl, rfl, rfl, trivial⟩ ?_)
    refine Zb ?_
    refine Zn rfl (fun hb4 => ?_) (fun hb4 => ?_)
    ·
     refine Zc (Za (ya rfl rfl (Zd (ρ' := [(4, _)]) ⟨rfl, trivial⟩ ?_)))
     refine Zb (Zv (Zr (Zh (Zh (Zr (Zh ?_))))))
     refine Zav (.tmp rfl) ?_
     exact ⟨_, rfl⟩
    ·
     refine Zs (Zaf (Zb (Za (Zf (Zas rfl rfl rfl (Zu (by omega))) rfl ?_))))
     refine ym rfl rfl (Zd (ρ' := [(0, _), (7, _), (8, _), (9, _)]) ⟨rfl, rfl, rfl, rfl, trivial⟩ ?_)
     refine Zae ?_
     refine ⟨m - 1, [(0, _), (7, _), (8, _), (9, _)], [], by omega, ⟨rfl, rfl, rfl, rfl, trivial⟩, trivial, i + 1, by omega, hle2, (by first | rfl | simp), (by first | rfl | (simp only [List.cons.injEq, Prod.mk.injEq, SV.v.injEq, Value.int.injEq, true_and, and_true]; omega) | simp), ?_⟩
     rfl
   ·
    iterate 4 refine Zo rfl rfl rfl rfl ?_
    refine Zf (Zm rfl rfl rfl) rfl (Zd (ρ' := [(0, _), (7, _), (8, _), (9, _), (22, _)]) ⟨rfl, rfl, rfl, rfl, rfl, trivial⟩ ?_)
    refine Zb ?_
    refine Zby rfl (rfl) ?_
    refine Zs (Zaf (Zb (Za (Zf (Zas rfl rfl rfl (Zu (by omega))) rfl ?_))))
    refine ym rfl rfl (Zd (ρ' := [(0, _), (7, _), (8, _), (9, _)]) ⟨rfl, rfl, rfl, rfl, trivial⟩ ?_)
    refine Zae ?_
    refine ⟨m - 1, [(0, _), (7, _), (8, _), (9, _)], [], by omega, ⟨rfl, rfl, rfl, rfl, trivial⟩, trivial, i + 1, by omega, hle2, (by first | rfl | simp), (by first | rfl | (simp only [List.cons.injEq, Prod.mk.injEq, SV.v.injEq, Value.int.injEq, true_and, and_true]; omega) | simp), ?_⟩
    rfl
  ·
   skip
   refine Zat ?_
   refine Zp (Zp ?_)
   refine Zah ?_
   refine Zb (Zc (Za (ya rfl rfl (Zd (ρ' := [(4, _)]) ⟨rfl, trivial⟩ ?_))))
   refine Zb (Zv ?_)
   refine Zav (.tmp rfl) ?_
   exact ⟨_, rfl⟩
theorem kletter_fn (c : Int) (u : View) : FnP Tryz.prog 138 [.int .i64 c] u fun r _ => ∃ b, r = .bool b := by
 refine FnP.intro [.tmp 2] Tryz.func138 rfl rfl rfl ?_
 intro w0 D hw0
 refine Zc (Za (ya rfl rfl (Zd (ρ' := [(0, _)]) ⟨rfl, trivial⟩ ?_)))
 refine Zb (Zc (Za (ym rfl rfl (Zf (Zbe rfl Tryz.f179' Tryz.z179 (ps := [(_, _), (_, _)]) rfl (vs := [_, _]) rfl) rfl ?_))))
 refine Zf (Zbe rfl Tryz.f179' Tryz.z179 (ps := [(_, _), (_, _)]) rfl (vs := [_, _]) rfl) rfl ?_
 refine Zf (Zbe rfl Tryz.f179' Tryz.z179 (ps := [(_, _), (_, _)]) rfl (vs := [_, _]) rfl) rfl ?_
 refine Zf (Zbe rfl Tryz.f179' Tryz.z179 (ps := [(_, _), (_, _)]) rfl (vs := [_, _]) rfl) rfl ?_
 refine Zf (Zbe rfl Tryz.f179' Tryz.z179 (ps := [(_, _), (_, _)]) rfl (vs := [_, _]) rfl) rfl ?_
 refine Zf (Zbe rfl Tryz.f179' Tryz.z179 (ps := [(_, _), (_, _)]) rfl (vs := [_, _]) rfl) rfl ?_
 refine Zf (Zbe rfl Tryz.f179' Tryz.z179 (ps := [(_, _), (_, _)]) rfl (vs := [_, _]) rfl) rfl ?_
 refine Zf (Zbe rfl Tryz.f179' Tryz.z179 (ps := [(_, _), (_, _)]) rfl (vs := [_, _]) rfl) rfl ?_
 refine Zf (Zbe rfl Tryz.f179' Tryz.z179 (ps := [(_, _), (_, _)]) rfl (vs := [_, _]) rfl) rfl ?_
 refine Zf (Zbe rfl Tryz.f179' Tryz.z179 (ps := [(_, _), (_, _)]) rfl (vs := [_, _]) rfl) rfl ?_
 refine Zf (Zbe rfl Tryz.f179' Tryz.z179 (ps := [(_, _), (_, _)]) rfl (vs := [_, _]) rfl) rfl ?_
 refine Zf (Zbe rfl Tryz.f179' Tryz.z179 (ps := [(_, _), (_, _)]) rfl (vs := [_, _]) rfl) rfl ?_
 refine Zf (Zbe rfl Tryz.f179' Tryz.z179 (ps := [(_, _), (_, _)]) rfl (vs := [_, _]) rfl) rfl ?_
 refine Zf (Zbe rfl Tryz.f179' Tryz.z179 (ps := [(_, _), (_, _)]) rfl (vs := [_, _]) rfl) rfl ?_
 refine Zq rfl rfl ?_
 refine Zac trivial Tryz.s180 Tryz.z179 (ps := [(_, _), (_, _), (_, _), (_, _), (_, _), (_, _), (_, _), (_, _), (_, _), (_, _), (_, _), (_, _), (_, _), (_, _)]) rfl (xs := [_, _, _, _, _, _, _, _, _, _, _, _, _, _, _, _, _, _, _, _, _, _, _, _, _, _, _, _]) rfl rfl rfl rfl rfl rfl rfl ?_
 refine Zbm 18 rfl ?_
 intro ad18 cap18 u18 hle18z hsl18
 refine Zq rfl rfl ?_
 refine Zw (caps := []) trivial rfl rfl Tryz.c155 rfl (FnP.mono (inr_fn c _ [(65, 90), (97, 122), (170, 170), (181, 181), (186, 186), (192, 214), (216, 246), (248, 687), (880, 1327), (4256, 4351), (7680, 8191), (12353, 12538), (19968, 40959), (44032, 55203)] (by decide) u18 ⟨_, _, rfl, hsl18⟩) ?_)
 rintro v u1 hle1 ⟨b, rfl⟩
 refine ya rfl rfl (Zd (ρ' := [(2, _)]) ⟨rfl, trivial⟩ ?_)
 refine Zb (Zv ?_)
 refine Zav (.tmp rfl) ?_
 exact ⟨_, rfl⟩
theorem digit_fn (c : Int) (u : View) : FnP Tryz.prog 139 [.int .i64 c] u fun r _ => ∃ b, r = .bool b := by
 refine FnP.intro [.tmp 2] Tryz.func139 rfl rfl rfl ?_
 intro w0 D hw0
 refine Zc (Za (ya rfl rfl (Zd (ρ' := [(0, _)]) ⟨rfl, trivial⟩ ?_)))
 refine Zb (Zc (Za (ym rfl rfl (Zf (Zbw rfl rfl rfl) rfl ?_))))
 refine ym rfl rfl ?_
 refine Zad 5 rfl (fun hg1_2 => ?_) (fun hg1_2 => ?_)
 ·
  refine Zk rfl rfl (ym rfl rfl (Zk rfl rfl (Zf (y_leq rfl rfl rfl) rfl ?_)))
  refine Zf (Zl rfl rfl rfl) rfl (ya rfl rfl (Zd (ρ' := [(2, _)]) ⟨rfl, trivial⟩ ?_))
  refine Zb (Zv ?_)
  refine Zav (.tmp rfl) ?_
  exact ⟨_, rfl⟩
 ·
  refine Zo rfl rfl rfl rfl (Zo rfl rfl rfl rfl (Zf (Zm rfl rfl rfl) rfl (ya rfl rfl (Zd (ρ' := [(2, _)]) ⟨rfl, trivial⟩ ?_))))
  refine Zb (Zv ?_)
  refine Zav (.tmp rfl) ?_
  exact ⟨_, rfl⟩
theorem space_fn (c : Int) (u : View) : FnP Tryz.prog 152 [.int .i64 c] u fun r _ => ∃ b, r = .bool b := by
 refine FnP.intro [.tmp 2] Tryz.func152 rfl rfl rfl ?_
 intro w0 D hw0
 refine Zc (Za (ya rfl rfl (Zd (ρ' := [(0, _)]) ⟨rfl, trivial⟩ ?_)))
 refine Zb (Zc (Za (ym rfl rfl (Zf (Zay rfl rfl rfl) rfl ?_))))
 refine ym rfl rfl ?_
 refine Zad 5 rfl (fun hg1_2 => ?_) (fun hg1_2 => ?_)
 ·
  refine Zo rfl rfl rfl rfl (Zo rfl rfl rfl rfl (Zf (Zl rfl rfl rfl) rfl (ya rfl rfl (Zd (ρ' := [(2, _)]) ⟨rfl, trivial⟩ ?_))))
  refine Zb (Zv ?_)
  refine Zav (.tmp rfl) ?_
  exact ⟨_, rfl⟩
 ·
  refine Zk rfl rfl (ym rfl rfl (Zk rfl rfl (Zf (Zay rfl rfl rfl) rfl ?_)))
  refine Zf (Zm rfl rfl rfl) rfl (ya rfl rfl (Zd (ρ' := [(2, _)]) ⟨rfl, trivial⟩ ?_))
  refine Zb (Zv ?_)
  refine Zav (.tmp rfl) ?_
  exact ⟨_, rfl⟩
theorem lowerC_fn (c : Int) (hc : Big c) (u : View) : FnP Tryz.prog 153 [.int .i64 c] u fun r _ => ∃ z, r = .int .i64 z := by
 unfold Big at hc
 refine FnP.intro [.tmp 2] Tryz.func153 rfl rfl rfl ?_
 intro w0 D hw0
 refine Zc (Za (ya rfl rfl (Zd (ρ' := [(0, _)]) ⟨rfl, trivial⟩ ?_)))
 refine Zb (Zc (Zaa ?_))
 refine Zbv (fun ρ σ uci5 => ∃ (bb : Bool), VLe u uci5 ∧ σ = [] ∧ ρ = [(0, .v (.int .i64 c)), (3, .v (.bool bb))] ∧ (u = uci5)) ?_ ?_
 ·
  refine Zc (Za ?_)
  refine Zbc 6 9 (fun _ => True) (ρk := [(0, _)]) ⟨rfl, trivial⟩ ?_ fun mb1_5 hm1_5 => ?_
  ·
   refine ym rfl rfl (Zf (Zbw rfl rfl rfl) rfl ?_)
   refine ym rfl rfl ?_
   refine Zad 6 rfl (fun hg1_2 => ?_) (fun hg1_2 => ?_)
   ·
    refine Zk rfl rfl (ym rfl rfl (Zk rfl rfl (Zf (y_leq rfl rfl rfl) rfl ?_)))
    refine Zf (Zl rfl rfl rfl) rfl ?_
    exact Zx rfl ⟨rfl, trivial⟩ (trivial)
   ·
    refine Zo rfl rfl rfl rfl (Zo rfl rfl rfl rfl (Zf (Zm rfl rfl rfl) rfl ?_))
    exact Zx rfl ⟨rfl, trivial⟩ (trivial)
  refine ya rfl rfl (Zd (ρ' := [(0, _), (3, _)]) ⟨rfl, rfl, trivial⟩ ?_)
  refine Zb ?_
  refine Zn rfl (fun hb1 => ?_) (fun hb1 => ?_)
  ·
   refine Zs (Zae ?_)
   refine ⟨[(0, _), (3, _)], [], ⟨rfl, rfl, trivial⟩, trivial, _, (VLe.refl _), rfl, rfl, ?_⟩
   rfl
  ·
   refine Zc (Za ?_)
   refine Zbc 10 19 (fun _ => True) (ρk := [(0, _)]) ⟨rfl, trivial⟩ ?_ fun mb2_9 hm2_9 => ?_
   ·
    refine ym rfl rfl (Zf (Zbw rfl rfl rfl) rfl ?_)
    refine ym rfl rfl ?_
    refine Zad 12 rfl (fun hg2_2 => ?_) (fun hg2_2 => ?_)
    ·
     refine Zk rfl rfl (ym rfl rfl (Zk rfl rfl (Zf (y_leq rfl rfl rfl) rfl ?_)))
     refine Zf (Zl rfl rfl rfl) rfl (ym rfl rfl ?_)
     refine Zad 16 rfl (fun hg2_6 => ?_) (fun hg2_6 => ?_)
     ·
      refine Zk rfl rfl (ym rfl rfl (Zk rfl rfl (Zf (Zcc rfl rfl rfl) rfl ?_)))
      refine Zf (Zl rfl rfl rfl) rfl ?_
      exact Zx rfl ⟨rfl, trivial⟩ (trivial)
     ·
      refine Zo rfl rfl rfl rfl (Zo rfl rfl rfl rfl (Zf (Zm rfl rfl rfl) rfl ?_))
      exact Zx rfl ⟨rfl, trivial⟩ (trivial)
    ·
     refine Zo rfl rfl rfl rfl (Zo rfl rfl rfl rfl (Zf (Zm rfl rfl rfl) rfl (ym rfl rfl (Zo rfl rfl rfl rfl (Zo rfl rfl rfl rfl (Zf (Zm rfl rfl rfl) rfl ?_))))))
     exact Zx rfl ⟨rfl, trivial⟩ (trivial)
   refine ya rfl rfl (Zd (ρ' := [(0, _), (3, _)]) ⟨rfl, rfl, trivial⟩ ?_)
   refine Zb ?_
   refine Zn rfl (fun hb2 => ?_) (fun hb2 => ?_)
   ·
    refine Zs (Zae ?_)
    refine ⟨[(0, _), (3, _)], [], ⟨rfl, rfl, trivial⟩, trivial, _, (VLe.refl _), rfl, rfl, ?_⟩
    rfl
   ·
    refine Zc (Za ?_)
    refine Zbc 10 29 (fun _ => True) (ρk := [(0, _)]) ⟨rfl, trivial⟩ ?_ fun mb3_9 hm3_9 => ?_
    ·
     refine ym rfl rfl (Zf (Zbw rfl rfl rfl) rfl ?_)
     refine ym rfl rfl ?_
     refine Zad 22 rfl (fun hg3_2 => ?_) (fun hg3_2 => ?_)
     ·
      refine Zk rfl rfl (ym rfl rfl (Zk rfl rfl (Zf (y_leq rfl rfl rfl) rfl ?_)))
      refine Zf (Zl rfl rfl rfl) rfl (ym rfl rfl ?_)
      refine Zad 26 rfl (fun hg3_6 => ?_) (fun hg3_6 => ?_)
      ·
       refine Zk rfl rfl (ym rfl rfl (Zk rfl rfl (Zf (Zcc rfl rfl rfl) rfl ?_)))
       refine Zf (Zl rfl rfl rfl) rfl ?_
       exact Zx rfl ⟨rfl, trivial⟩ (trivial)
      ·
       refine Zo rfl rfl rfl rfl (Zo rfl rfl rfl rfl (Zf (Zm rfl rfl rfl) rfl ?_))
       exact Zx rfl ⟨rfl, trivial⟩ (trivial)
     ·
      refine Zo rfl rfl rfl rfl (Zo rfl rfl rfl rfl (Zf (Zm rfl rfl rfl) rfl (ym rfl rfl (Zo rfl rfl rfl rfl (Zo rfl rfl rfl rfl (Zf (Zm rfl rfl rfl) rfl ?_))))))
      exact Zx rfl ⟨rfl, trivial⟩ (trivial)
    refine ya rfl rfl (Zd (ρ' := [(0, _), (3, _)]) ⟨rfl, rfl, trivial⟩ ?_)
    refine Zb ?_
    refine Zn rfl (fun hb3 => ?_) (fun hb3 => ?_)
    ·
     refine Zs (Zae ?_)
     refine ⟨[(0, _), (3, _)], [], ⟨rfl, rfl, trivial⟩, trivial, _, (VLe.refl _), rfl, rfl, ?_⟩
     rfl
    ·
     refine Za ?_
     refine Zbc 6 35 (fun _ => True) (ρk := [(0, _)]) ⟨rfl, trivial⟩ ?_ fun mb4_5 hm4_5 => ?_
     ·
      refine ym rfl rfl (Zf (Zbw rfl rfl rfl) rfl ?_)
      refine ym rfl rfl ?_
      refine Zad 32 rfl (fun hg4_2 => ?_) (fun hg4_2 => ?_)
      ·
       refine Zk rfl rfl (ym rfl rfl (Zk rfl rfl (Zf (y_leq rfl rfl rfl) rfl ?_)))
       refine Zf (Zl rfl rfl rfl) rfl ?_
       exact Zx rfl ⟨rfl, trivial⟩ (trivial)
      ·
       refine Zo rfl rfl rfl rfl (Zo rfl rfl rfl rfl (Zf (Zm rfl rfl rfl) rfl ?_))
       exact Zx rfl ⟨rfl, trivial⟩ (trivial)
     refine ya rfl rfl (Zd (ρ' := [(0, _), (3, _)]) ⟨rfl, rfl, trivial⟩ ?_)
     refine Zae ?_
     refine ⟨[(0, _), (3, _)], [], ⟨rfl, rfl, trivial⟩, trivial, _, (VLe.refl _), rfl, rfl, ?_⟩
     rfl
 ·
  rintro ρ σ uci5 ⟨bb, hlci5, rfl, rfl, rfl⟩
  refine Zn rfl (fun hb4 => ?_) (fun hb4 => ?_)
  ·
   refine Zc (Za (ym rfl rfl (Zf (Zas rfl rfl rfl (Zu (by omega))) rfl ?_)))
   refine ya rfl rfl (Zd (ρ' := [(2, _)]) ⟨rfl, trivial⟩ ?_)
   refine Zb (Zv (Zr (Zh ?_)))
   refine Zav (.tmp rfl) ?_
   exact ⟨_, rfl⟩
  ·
   refine Zc (Za ?_)
   refine Zbc 6 44 (fun _ => True) (ρk := [(0, _)]) ⟨rfl, trivial⟩ ?_ fun mb6_5 hm6_5 => ?_
   ·
    refine ym rfl rfl (Zf (Zbw rfl rfl rfl) rfl ?_)
    refine ym rfl rfl ?_
    refine Zad 41 rfl (fun hg6_2 => ?_) (fun hg6_2 => ?_)
    ·
     refine Zk rfl rfl (ym rfl rfl (Zk rfl rfl (Zf (y_leq rfl rfl rfl) rfl ?_)))
     refine Zf (Zl rfl rfl rfl) rfl ?_
     exact Zx rfl ⟨rfl, trivial⟩ (trivial)
    ·
     refine Zo rfl rfl rfl rfl (Zo rfl rfl rfl rfl (Zf (Zm rfl rfl rfl) rfl ?_))
     exact Zx rfl ⟨rfl, trivial⟩ (trivial)
   refine ya rfl rfl (Zd (ρ' := [(0, _), (38, _)]) ⟨rfl, rfl, trivial⟩ ?_)
   refine Zb ?_
   refine Zn rfl (fun hb6 => ?_) (fun hb6 => ?_)
   ·
    refine Zc (Za (ym rfl rfl (Zf (Zas rfl rfl rfl (Zu (by omega))) rfl ?_)))
    refine ya rfl rfl (Zd (ρ' := [(2, _)]) ⟨rfl, trivial⟩ ?_)
    refine Zb (Zv (Zr (Zh ?_)))
    refine Zav (.tmp rfl) ?_
    exact ⟨_, rfl⟩
   ·
    refine Zs (Zaf (Zb (Zc (Za (ym rfl rfl (ya rfl rfl (Zd (ρ' := [(2, _)]) ⟨rfl, trivial⟩ ?_)))))))
    refine Zb (Zv ?_)
    refine Zav (.tmp rfl) ?_
    exact ⟨_, rfl⟩
theorem u8c (e : Int) : ∃ c : UInt8, IntKind.u8.wrap e = (c.toNat : Int) := by
 have h : IntKind.u8.wrap e = e % 256 := by rw [IntKind.wrap_u8]
 refine ⟨UInt8.ofNat (e % 256).toNat, ?_⟩
 rw [h]
 have := Int.emod_nonneg e (show (256 : Int) ≠ 0 by decide)
 have := Int.emod_lt_of_pos e (show (0 : Int) < 256 by decide)
 rw [UInt8.toNat_ofNat']
 omega
def badC (c : Int) : Prop := c < 0 ∨ 1114111 < c ∨ 55296 ≤ c ∧ c ≤ 57343
instance (c : Int) : Decidable (badC c) := by unfold badC; exact inferInstance
def BytesR (r : Value) (u' : View) : Prop := ∃ l : Bs, l.length ≤ 4 ∧ IsSl u' r l.length 1 (bytesC l)
theorem bytes_step (c : Int) (u : View) (ih : badC c → FnP Tryz.prog 161 [.int .i64 65533] u BytesR) : FnP Tryz.prog 161 [.int .i64 c] u BytesR := by
 refine FnP.intro [.tmp 2] Tryz.func161 rfl rfl rfl ?_
 intro w0 D hw0
 refine Zc (Za (ya rfl rfl (Zd (ρ' := [(0, _)]) ⟨rfl, trivial⟩ ?_)))
 refine Zb (Zc (Zaa (Zc ?_)))
 refine Zca 3 (decide (badC c)) (ρk := [(0, _)]) ⟨rfl, trivial⟩ ?_ ?_
 ·
  refine Za (ym rfl rfl (Zf (Zbh rfl rfl rfl) rfl ?_))
  refine ym rfl rfl ?_
  refine Zad 6 rfl (fun hg1_2 => ?_) (fun hg1_2 => ?_)
  ·
   refine Zo rfl rfl rfl rfl (Zo rfl rfl rfl rfl (Zf (Zl rfl rfl rfl) rfl (ym rfl rfl ?_)))
   iterate 3 refine Zo rfl rfl rfl rfl ?_
   refine Zab rfl rfl rfl ?_
   refine Zab rfl rfl rfl ?_
   refine Zo rfl rfl rfl rfl (Zf (Zl rfl rfl rfl) rfl (ya rfl rfl ?_))
   exact Zak rfl ⟨rfl, trivial⟩ (by (first | refine (decide_eq_true ?_).symm | refine (decide_eq_false ?_).symm | refine decide_eq_decide.2 ?_ | refine decide_eq_true ?_ | refine decide_eq_false ?_) <;> (try unfold badC) <;> (try simp only [decide_eq_true_eq, decide_eq_false_iff_not] at *) <;> omega)
  ·
   refine Zk rfl rfl (ym rfl rfl (Zk rfl rfl (Zf (Zcd rfl rfl rfl) rfl ?_)))
   refine Zf (Zm rfl rfl rfl) rfl (ym rfl rfl ?_)
   refine Zad 10 rfl (fun hg1_6 => ?_) (fun hg1_6 => ?_)
   ·
    iterate 3 refine Zo rfl rfl rfl rfl ?_
    refine Zab rfl rfl rfl ?_
    refine Zab rfl rfl rfl ?_
    refine Zo rfl rfl rfl rfl (Zf (Zl rfl rfl rfl) rfl (ya rfl rfl ?_))
    exact Zak rfl ⟨rfl, trivial⟩ (by (first | refine (decide_eq_true ?_).symm | refine (decide_eq_false ?_).symm | refine decide_eq_decide.2 ?_ | refine decide_eq_true ?_ | refine decide_eq_false ?_) <;> (try unfold badC) <;> (try simp only [decide_eq_true_eq, decide_eq_false_iff_not] at *) <;> omega)
   ·
    refine Zk rfl rfl (ym rfl rfl (Zk rfl rfl (Zf (Zbw rfl rfl rfl) rfl ?_)))
    refine Zk rfl rfl (ym rfl rfl ?_)
    refine Zad 13 rfl (fun hg1_9 => ?_) (fun hg1_9 => ?_)
    ·
     refine Zk rfl rfl (ym rfl rfl (Zk rfl rfl (Zf (y_leq rfl rfl rfl) rfl ?_)))
     refine Zk rfl rfl (Zf (Zl rfl rfl rfl) rfl (Zf (Zm rfl rfl rfl) rfl (ya rfl rfl ?_)))
     exact Zak rfl ⟨rfl, trivial⟩ (by (first | refine (decide_eq_true ?_).symm | refine (decide_eq_false ?_).symm | refine decide_eq_decide.2 ?_ | refine decide_eq_true ?_ | refine decide_eq_false ?_) <;> (try unfold badC) <;> (try simp only [decide_eq_true_eq, decide_eq_false_iff_not] at *) <;> omega)
    ·
     refine Zo rfl rfl rfl rfl (Zo rfl rfl rfl rfl (Zk rfl rfl (Zf (Zm rfl rfl rfl) rfl (Zf (Zm rfl rfl rfl) rfl (ya rfl rfl ?_)))))
     exact Zak rfl ⟨rfl, trivial⟩ (by (first | refine (decide_eq_true ?_).symm | refine (decide_eq_false ?_).symm | refine decide_eq_decide.2 ?_ | refine decide_eq_true ?_ | refine decide_eq_false ?_) <;> (try unfold badC) <;> (try simp only [decide_eq_true_eq, decide_eq_false_iff_not] at *) <;> omega)
 refine Zb ?_
 refine Zn rfl (fun hb1 => ?_) (fun hb1 => ?_)
 ·
  have hbad := of_decide_eq_true hb1
  refine Zc (Za (Zq rfl rfl ?_))
  refine Zbb (caps := []) trivial rfl rfl Tryz.c161 rfl (FnP.mono (ih hbad) ?_)
  rintro v u1 hle0 hr hle1
  refine ya rfl rfl (Zd (ρ' := [(2, _)]) ⟨rfl, trivial⟩ ?_)
  refine Zb (Zv (Zr (Zh ?_)))
  refine Zav (.tmp rfl) ?_
  exact hr
 ·
  have hnb := of_decide_eq_false hb1; unfold badC at hnb
  refine Zc (Za (ym rfl rfl (Zf (Zbh rfl rfl rfl) rfl ?_)))
  refine ya rfl rfl (Zd (ρ' := [(0, _), (19, _)]) ⟨rfl, rfl, trivial⟩ ?_)
  refine Zb ?_
  refine Zn rfl (fun hb3 => ?_) (fun hb3 => ?_)
  ·
   refine Zc (Za (ym rfl rfl (Zf (y_conv rfl Tryz.u3 Tryz.u5 rfl rfl) rfl ?_)))
   refine Zq rfl rfl ?_
   refine Zac trivial Tryz.s64 Tryz.z5 (ps := [(_, _)]) rfl (xs := [_]) rfl rfl rfl rfl rfl rfl rfl ?_
   refine Zbm 24 rfl ?_
   intro ad24 cap24 u24 hle24z hsl24
   refine ya rfl rfl (Zd (ρ' := [(2, _)]) ⟨rfl, trivial⟩ ?_)
   refine Zb (Zv (Zr (Zh ?_)))
   refine Zav (.tmp rfl) ?_
   obtain ⟨c1, h1⟩ := u8c c
   rw [h1] at hsl24
   exact ⟨[c1], by simp, ⟨_, _, rfl, hsl24⟩⟩
  ·
   refine Zc (Za (ym rfl rfl (Zf (Zbh rfl rfl rfl) rfl ?_)))
   refine ya rfl rfl (Zd (ρ' := [(0, _), (25, _)]) ⟨rfl, rfl, trivial⟩ ?_)
   refine Zb ?_
   refine Zn rfl (fun hb5 => ?_) (fun hb5 => ?_)
   ·
    refine Zc (Za (ym rfl rfl (Zf (y_quoE rfl rfl rfl (by omega) (by omega) (by omega)) rfl ?_)))
    refine Zf (Zas rfl rfl rfl (Zu (by omega))) rfl ?_
    refine Zf (y_conv rfl Tryz.u3 Tryz.u5 rfl rfl) rfl ?_
    refine ym rfl rfl (Zf (y_remE rfl rfl rfl (by omega) (by omega)) rfl ?_)
    refine Zf (Zas rfl rfl rfl (Zu (by omega))) rfl ?_
    refine Zf (y_conv rfl Tryz.u3 Tryz.u5 rfl rfl) rfl ?_
    refine Zq rfl rfl ?_
    refine Zac trivial Tryz.s64 Tryz.z5 (ps := [(_, _), (_, _)]) rfl (xs := [_, _]) rfl rfl rfl rfl rfl rfl rfl ?_
    refine Zbm 36 rfl ?_
    intro ad36 cap36 u36 hle36z hsl36
    refine ya rfl rfl (Zd (ρ' := [(2, _)]) ⟨rfl, trivial⟩ ?_)
    refine Zb (Zv (Zr (Zh ?_)))
    refine Zav (.tmp rfl) ?_
    obtain ⟨c1, h1⟩ := u8c (192 + c / 64)
    obtain ⟨c2, h2⟩ := u8c (128 + c % 64)
    rw [h1, h2] at hsl36
    exact ⟨[c1, c2], by simp, ⟨_, _, rfl, hsl36⟩⟩
   ·
    refine Zc (Za (ym rfl rfl (Zf (Zbh rfl rfl rfl) rfl ?_)))
    refine ya rfl rfl (Zd (ρ' := [(0, _), (37, _)]) ⟨rfl, rfl, trivial⟩ ?_)
    refine Zb ?_
    refine Zn rfl (fun hb7 => ?_) (fun hb7 => ?_)
    ·
     refine Zc (Za (ym rfl rfl (Zf (y_quoE rfl rfl rfl (by omega) (by omega) (by omega)) rfl ?_)))
     refine Zf (Zas rfl rfl rfl (Zu (by omega))) rfl ?_
     refine Zf (y_conv rfl Tryz.u3 Tryz.u5 rfl rfl) rfl ?_
     refine ym rfl rfl (Zf (y_quoE rfl rfl rfl (by omega) (by omega) (by omega)) rfl ?_)
     refine Zf (y_remE rfl rfl rfl (by omega) (by omega)) rfl ?_
     refine Zf (Zas rfl rfl rfl (Zu (by omega))) rfl ?_
     refine Zf (y_conv rfl Tryz.u3 Tryz.u5 rfl rfl) rfl ?_
     refine ym rfl rfl (Zf (y_remE rfl rfl rfl (by omega) (by omega)) rfl ?_)
     refine Zf (Zas rfl rfl rfl (Zu (by omega))) rfl ?_
     refine Zf (y_conv rfl Tryz.u3 Tryz.u5 rfl rfl) rfl ?_
     refine Zq rfl rfl ?_
     refine Zac trivial Tryz.s64 Tryz.z5 (ps := [(_, _), (_, _), (_, _)]) rfl (xs := [_, _, _]) rfl rfl rfl rfl rfl rfl rfl ?_
     refine Zbm 53 rfl ?_
     intro ad53 cap53 u53 hle53z hsl53
     refine ya rfl rfl (Zd (ρ' := [(2, _)]) ⟨rfl, trivial⟩ ?_)
     refine Zb (Zv (Zr (Zh ?_)))
     refine Zav (.tmp rfl) ?_
     obtain ⟨c1, h1⟩ := u8c (224 + c / 4096)
     obtain ⟨c2, h2⟩ := u8c (128 + c / 64 % 64)
     obtain ⟨c3, h3⟩ := u8c (128 + c % 64)
     rw [h1, h2, h3] at hsl53
     exact ⟨[c1, c2, c3], by simp, ⟨_, _, rfl, hsl53⟩⟩
    ·
     refine Zs (Zaf (Zb (Zc (Za (ym rfl rfl (Zf (y_quoE rfl rfl rfl (by omega) (by omega) (by omega)) rfl ?_))))))
     refine Zf (Zas rfl rfl rfl (Zu (by omega))) rfl ?_
     refine Zf (y_conv rfl Tryz.u3 Tryz.u5 rfl rfl) rfl ?_
     refine ym rfl rfl (Zf (y_quoE rfl rfl rfl (by omega) (by omega) (by omega)) rfl ?_)
     refine Zf (y_remE rfl rfl rfl (by omega) (by omega)) rfl ?_
     refine Zf (Zas rfl rfl rfl (Zu (by omega))) rfl ?_
     refine Zf (y_conv rfl Tryz.u3 Tryz.u5 rfl rfl) rfl ?_
     refine ym rfl rfl (Zf (y_quoE rfl rfl rfl (by omega) (by omega) (by omega)) rfl ?_)
     refine Zf (y_remE rfl rfl rfl (by omega) (by omega)) rfl ?_
     refine Zf (Zas rfl rfl rfl (Zu (by omega))) rfl ?_
     refine Zf (y_conv rfl Tryz.u3 Tryz.u5 rfl rfl) rfl ?_
     refine ym rfl rfl (Zf (y_remE rfl rfl rfl (by omega) (by omega)) rfl ?_)
     refine Zf (Zas rfl rfl rfl (Zu (by omega))) rfl ?_
     refine Zf (y_conv rfl Tryz.u3 Tryz.u5 rfl rfl) rfl ?_
     refine Zq rfl rfl ?_
     refine Zac trivial Tryz.s64 Tryz.z5 (ps := [(_, _), (_, _), (_, _), (_, _)]) rfl (xs := [_, _, _, _]) rfl rfl rfl rfl rfl rfl rfl ?_
     refine Zbm 72 rfl ?_
     intro ad72 cap72 u72 hle72z hsl72
     refine ya rfl rfl (Zd (ρ' := [(2, _)]) ⟨rfl, trivial⟩ ?_)
     refine Zb (Zv ?_)
     refine Zav (.tmp rfl) ?_
     obtain ⟨c1, h1⟩ := u8c (240 + c / 262144)
     obtain ⟨c2, h2⟩ := u8c (128 + c / 4096 % 64)
     obtain ⟨c3, h3⟩ := u8c (128 + c / 64 % 64)
     obtain ⟨c4, h4⟩ := u8c (128 + c % 64)
     rw [h1, h2, h3, h4] at hsl72
     exact ⟨[c1, c2, c3, c4], by simp, ⟨_, _, rfl, hsl72⟩⟩
theorem bytes_fn (c : Int) (u : View) : FnP Tryz.prog 161 [.int .i64 c] u BytesR :=
 bytes_step c u fun _ => bytes_step 65533 u fun h => absurd h (by decide)
theorem ktext_fn (l : List Int) (hl : l.length ≤ 200000000) (v : Value) (u : View) (h : IsSl u v l.length 1 (intsC l)) : FnP Tryz.prog 154 [v] u fun r _ => ∃ s : Bs, r = str s := by
 obtain ⟨ad, cap, rfl, h1⟩ := h
 refine FnP.intro [.tmp 2] Tryz.func154 rfl rfl rfl ?_
 intro w0 D hw0
 refine Zc (Za (ya rfl rfl (Zd (ρ' := [(0, _)]) ⟨rfl, trivial⟩ ?_)))
 refine Zb (Zc (Za (ya rfl rfl ?_)))
 refine Zbz 3 503 5 1 rfl rfl rfl ?_
 refine Zd (ρ' := [(0, _), (3, _)]) ⟨rfl, rfl, trivial⟩ ?_
 refine Zb (Zc (Zc (Za (ym rfl rfl (Zf (Zal rfl rfl Tryz.s143 rfl) rfl ?_)))))
 refine ym rfl rfl (Zd (ρ' := [(3, _), (6, _), (7, _), (8, _)]) ⟨rfl, rfl, rfl, rfl, trivial⟩ ?_)
 refine Zb (Zaa ?_)
 refine Zau (fun m ρ σ u' => ∃ i : Nat, i + m = l.length ∧ VLe u u' ∧ ∃ (w : Bs), σ = [(503, (none, .row 5 1 w.length (bytesC w)))] ∧ ρ = [(3, .s 503), (6, .v (.slice ad l.length cap)), (7, .v (.int .i64 l.length)), (8, .v (.int .i64 i))] ∧ (w.length ≤ 4 * i)) (l.length) ?_ ?_
 ·
  refine ⟨[(3, _), (6, _), (7, _), (8, _)], [(503, _)], ⟨rfl, rfl, rfl, rfl, trivial⟩, ⟨rfl, trivial⟩, 0, by omega, VLe.refl _, [], rfl, rfl, ?_⟩
  exact Nat.le_refl _
 ·
  rintro m ρ σ u' ⟨i, hi3, hle3, w, rfl, rfl, hwl⟩
  refine Zc (Za (Zf (Zbh rfl rfl rfl) rfl ?_))
  refine Zd (ρ' := [(3, _), (6, _), (7, _), (8, _), (9, _)]) ⟨rfl, rfl, rfl, rfl, rfl, trivial⟩ ?_
  refine Zb (Zc ?_)
  refine Zn rfl (fun hb3 => ?_) (fun hb3 => ?_)
  ·
   have hlt : i < l.length := by have := of_decide_eq_true hb3; omega
   have h1 := h1.mono hle3
   have hcc := cut_intsC (List.getElem?_eq_getElem hlt)
   refine Zs (Zb (Zc (Zaa (Zc (Za (Zf (Zai rfl Tryz.s143 rfl rfl (by assumption) (by first | rfl | omega) (by omega)) rfl ?_))))))
   refine Zf (Zag rfl Tryz.k3 rfl (by assumption) (by omega) (by assumption) (vs := [_]) rfl rfl rfl rfl) rfl ?_
   refine ya rfl rfl (Zd (ρ' := [(3, _), (5, _), (6, _), (7, _), (8, _)]) ⟨rfl, rfl, rfl, rfl, rfl, trivial⟩ ?_)
   refine Zb (Za (ym rfl rfl (ym rfl rfl (Zq rfl rfl ?_))))
   refine Zbb (caps := []) trivial rfl rfl Tryz.c161 rfl (FnP.mono (bytes_fn _ _) ?_)
   rintro v uB hle0 ⟨bl, hbl, ⟨bad', bcap, rfl, hb1'⟩⟩ hleB
   refine Zq rfl rfl ?_
   refine Zbx trivial rfl rfl Tryz.s64 Tryz.z5 rfl rfl rfl rfl rfl (by assumption) (by simp [bytesC, Lib.byteCells, Value.oneCell']) (by omega) (by omega) (ρ' := [(6, _), (7, _), (8, _)]) ⟨rfl, rfl, rfl, trivial⟩ rfl rfl rfl ?_
   refine ya rfl rfl ?_
   refine Zch 15 503 rfl rfl rfl ?_
   refine Zd (ρ' := [(3, _), (6, _), (7, _), (8, _)]) ⟨rfl, rfl, rfl, rfl, trivial⟩ ?_
   refine Zaf (Zb (Za (Zf (Zas rfl rfl rfl (Zu (by omega))) rfl ?_)))
   refine ym rfl rfl (Zd (ρ' := [(3, _), (6, _), (7, _), (8, _)]) ⟨rfl, rfl, rfl, rfl, trivial⟩ ?_)
   refine Zae ?_
   refine ⟨m - 1, [(3, _), (6, _), (7, _), (8, _)], [(503, _)], by omega, ⟨rfl, rfl, rfl, rfl, trivial⟩, ⟨rfl, trivial⟩, i + 1, by omega, (hle3.trans hleB), w ++ bl, (by rw [List.length_append, bytesC_append]), rfl, ?_⟩
   rw [List.length_append]; omega
  ·
   skip
   refine Zat ?_
   refine Zp (Zp ?_)
   refine Zah ?_
   refine Zb (Zc (Za (ym rfl rfl (Zf (y_convBS_s rfl Tryz.s64 Tryz.u5 Tryz.str9 rfl rfl rfl rfl) rfl ?_))))
   refine ya rfl rfl (Zd (ρ' := [(2, _)]) ⟨rfl, trivial⟩ ?_)
   refine Zb (Zv ?_)
   refine Zav (.tmp rfl) ?_
   exact ⟨_, rfl⟩
theorem intsC_append (a b : List Int) : intsC (a ++ b) = intsC a ++ intsC b := by simp [intsC]
theorem fold_fn (s : Bs) (hs : s.length ≤ 10000000) (u : View) : FnP Tryz.prog 136 [str s] u fun r _ => ∃ t : Bs, r = str t := by
 refine FnP.intro [.tmp 2] Tryz.func136 rfl rfl rfl ?_
 intro w0 D hw0
 refine Zc (Za (ya rfl rfl (Zd (ρ' := [(0, _)]) ⟨rfl, trivial⟩ ?_)))
 refine Zb (Zc (Za (ya rfl rfl ?_)))
 refine Zbz 3 503 3 1 rfl rfl rfl ?_
 refine Zd (ρ' := [(0, _), (3, _)]) ⟨rfl, rfl, trivial⟩ ?_
 refine Zb (Zc (Za (ya rfl rfl (Zd (ρ' := [(0, _), (3, _), (4, _)]) ⟨rfl, rfl, rfl, trivial⟩ ?_))))
 refine Zb (Zc (Zc (Za (ym rfl rfl (Zq rfl rfl ?_)))))
 refine Zbb (caps := []) trivial rfl rfl Tryz.c94 rfl (FnP.mono (kpoints_fn s (by omega) u) ?_)
 rintro v uP hle0 ⟨l, ⟨ad, cap, rfl, h1⟩, hl, hlb⟩ hleP
 refine Zf (Zal rfl rfl Tryz.s124 rfl) rfl ?_
 refine ym rfl rfl (Zd (ρ' := [(3, _), (4, _), (8, _), (9, _), (10, _)]) ⟨rfl, rfl, rfl, rfl, rfl, trivial⟩ ?_)
 refine Zb (Zaa ?_)
 refine Zau (fun m ρ σ u' => ∃ i : Nat, i + m = l.length ∧ VLe uP u' ∧ ∃ (gp : Bool) (w : List Int), σ = [(503, (none, .row 3 1 w.length (intsC w)))] ∧ ρ = [(3, .s 503), (4, .v (.bool gp)), (8, .v (.slice ad l.length cap)), (9, .v (.int .i64 l.length)), (10, .v (.int .i64 i))] ∧ (uP = u' ∧ w.length ≤ 2 * i)) (l.length) ?_ ?_
 ·
  refine ⟨[(3, _), (4, _), (8, _), (9, _), (10, _)], [(503, _)], ⟨rfl, rfl, rfl, rfl, rfl, trivial⟩, ⟨rfl, trivial⟩, 0, by omega, VLe.refl _, false, [], rfl, rfl, ?_⟩
  exact ⟨rfl, Nat.le_refl _⟩
 ·
  rintro m ρ σ u' ⟨i, hi4, hle4, gp, w, rfl, rfl, ⟨rfl, hwl⟩⟩
  refine Zc (Za (Zf (Zbh rfl rfl rfl) rfl ?_))
  refine Zd (ρ' := [(3, _), (4, _), (8, _), (9, _), (10, _), (11, _)]) ⟨rfl, rfl, rfl, rfl, rfl, rfl, trivial⟩ ?_
  refine Zb (Zc ?_)
  refine Zn rfl (fun hb4 => ?_) (fun hb4 => ?_)
  ·
   have hlt : i < l.length := by have := of_decide_eq_true hb4; omega
   have hcc := cut_ptsC (List.getElem?_eq_getElem hlt)
   have hbig := hlb _ (List.getElem_mem hlt)
   refine Zs (Zb (Zc (Zaa (Zc (Za (Zf (Zai rfl Tryz.s124 rfl rfl (by assumption) (by first | rfl | omega) (by omega)) rfl ?_))))))
   refine Zf (Zag rfl Tryz.k127 rfl (by assumption) (by omega) (by assumption) (vs := [_, _]) rfl rfl rfl rfl) rfl ?_
   refine Zq rfl rfl ?_
   refine Zax trivial Tryz.z127 rfl rfl rfl ?_
   refine Zq rfl rfl ?_
   refine Zt trivial rfl Tryz.k127 rfl rfl rfl (vs := [_, _]) rfl rfl (by first | rfl | assumption | simp [Value.oneCell', str]) (Nat.le_of_ble_eq_true rfl) rfl ?_
   refine Zd (ρ' := [(3, _), (4, _), (6, _), (8, _), (9, _), (10, _)]) ⟨rfl, rfl, rfl, rfl, rfl, rfl, trivial⟩ ?_
   refine Zb (Zc (Zc (Za (Zf (Zi rfl Tryz.f127' rfl (by decide) rfl) rfl ?_))))
   refine Zf (Zj rfl Tryz.k3 rfl rfl rfl (vs := [_]) rfl rfl rfl) rfl ?_
   refine Zq rfl rfl ?_
   refine Zw (caps := []) trivial rfl rfl Tryz.c152 rfl (FnP.mono (space_fn _ _) ?_)
   rintro v u1 hle1 ⟨b, rfl⟩
   refine Zd (ρ' := [(3, _), (4, _), (6, _), (8, _), (9, _), (10, _), (16, _)]) ⟨rfl, rfl, rfl, rfl, rfl, rfl, rfl, trivial⟩ ?_
   refine Zb ?_
   refine Zn rfl (fun hb6 => ?_) (fun hb6 => ?_)
   ·
    refine Zc (Za (ya rfl rfl (Zd (ρ' := [(3, _), (4, _), (8, _), (9, _), (10, _)]) ⟨rfl, rfl, rfl, rfl, rfl, trivial⟩ ?_)))
    refine Zb ?_
    refine Zat ?_
    refine Zp ?_
    refine Zah ?_
    refine Zb (Za (Zf (Zas rfl rfl rfl (Zu (by omega))) rfl ?_))
    refine ym rfl rfl (Zd (ρ' := [(3, _), (4, _), (8, _), (9, _), (10, _)]) ⟨rfl, rfl, rfl, rfl, rfl, trivial⟩ ?_)
    refine Zae ?_
    first
    | (refine ⟨m - 1, [(3, _), (4, _), (8, _), (9, _), (10, _)], [(503, _)], by omega, ⟨rfl, rfl, rfl, rfl, rfl, trivial⟩, ⟨rfl, trivial⟩, i + 1, by omega, hle4, false, w2 ++ [z], (by rw [List.length_append, intsC_append]; rfl), rfl, rfl, by rw [List.length_append]; simp; omega⟩)
    | (refine ⟨m - 1, [(3, _), (4, _), (8, _), (9, _), (10, _)], [(503, _)], by omega, ⟨rfl, rfl, rfl, rfl, rfl, trivial⟩, ⟨rfl, trivial⟩, i + 1, by omega, hle4, true, w, rfl, rfl, rfl, by omega⟩)
   ·
    refine Zs (Zb (Zc (Zc (Za (ym rfl rfl (ym rfl rfl ?_))))))
    refine Zad 18 rfl (fun hg8_1 => ?_) (fun hg8_1 => ?_)
    ·
     refine Zk rfl rfl (ym rfl rfl (Zk rfl rfl (Zf (y_len_s rfl rfl Tryz.s143 rfl rfl) rfl ?_)))
     refine Zk rfl rfl (Zf (Zcd rfl rfl rfl) rfl ?_)
     refine Zf (Zl rfl rfl rfl) rfl (Zd (ρ' := [(3, _), (6, _), (8, _), (9, _), (10, _), (22, _)]) ⟨rfl, rfl, rfl, rfl, rfl, rfl, trivial⟩ ?_)
     refine Zb ?_
     refine Zn rfl (fun hb8 => ?_) (fun hb8 => ?_)
     ·
      refine Za (ym rfl rfl (Zq rfl rfl ?_))
      refine Zac trivial Tryz.s143 Tryz.z3 (ps := [(_, _)]) rfl (xs := [_]) rfl rfl rfl rfl rfl rfl rfl ?_
      refine Zq rfl rfl ?_
      refine Zbr trivial rfl rfl Tryz.s143 Tryz.z3 rfl rfl rfl rfl rfl rfl (by first | rfl | assumption | simp [Value.oneCell', str]) (by omega) (by omega) (ρ' := [(6, _), (8, _), (9, _), (10, _)]) ⟨rfl, rfl, rfl, rfl, trivial⟩ rfl rfl rfl ?_
      refine ya rfl rfl ?_
      refine Zch 25 503 rfl rfl rfl ?_
      refine Zd (ρ' := [(3, _), (6, _), (8, _), (9, _), (10, _)]) ⟨rfl, rfl, rfl, rfl, rfl, trivial⟩ ?_
      refine Zb ?_
      refine Zbv (fun ρ σ uc11 => ∃ (w2 : List Int), VLe uP uc11 ∧ σ = [(503, (none, .row 3 1 w2.length (intsC w2))), (6, (none, .box [.int .i64 (l[i]).1, .int .i64 (l[i]).2]))] ∧ ρ = [(3, .s 503), (6, .p 6 0), (8, .v (.slice ad l.length cap)), (9, .v (.int .i64 l.length)), (10, .v (.int .i64 i)), (4, .v (.bool false))] ∧ (uP = uc11 ∧ w2.length ≤ 2 * i + 1)) ?_ ?_
      ·
       refine Za (ya rfl rfl (Zd (ρ' := [(3, _), (4, _), (6, _), (8, _), (9, _), (10, _)]) ⟨rfl, rfl, rfl, rfl, rfl, rfl, trivial⟩ ?_))
       refine Zae ?_
       first
        | (refine ⟨[(3, _), (6, _), (8, _), (9, _), (10, _), (4, _)], [(503, _), (6, _)], ⟨rfl, rfl, rfl, rfl, rfl, rfl, trivial⟩, ⟨rfl, rfl, trivial⟩, w ++ [32], (VLe.refl _), (by first | rfl | (rw [List.length_append, intsC_append]; rfl)), rfl, ?_⟩
           exact ⟨rfl, by rw [List.length_append]; simp; omega⟩)
        | (refine ⟨[(3, _), (6, _), (8, _), (9, _), (10, _), (4, _)], [(503, _), (6, _)], ⟨rfl, rfl, rfl, rfl, rfl, rfl, trivial⟩, ⟨rfl, rfl, trivial⟩, w, (VLe.refl _), (by first | rfl | (rw [List.length_append, intsC_append]; rfl)), rfl, ?_⟩
           exact ⟨rfl, by omega⟩)
      ·
       rintro ρ σ uc11 ⟨w2, hlc11, rfl, rfl, ⟨rfl, hw2⟩⟩
       refine Za (ym rfl rfl (Zf (Zi rfl Tryz.f127' rfl (by decide) rfl) rfl ?_))
       refine Zf (Zj rfl Tryz.k3 rfl rfl rfl (vs := [_]) rfl rfl rfl) rfl ?_
       refine Zq rfl rfl ?_
       refine Zw (caps := []) trivial rfl rfl Tryz.c153 rfl (FnP.mono (lowerC_fn _ hbig _) ?_)
       rintro v u1 hle1 ⟨z, rfl⟩
       refine Zq rfl rfl ?_
       refine Zac trivial Tryz.s143 Tryz.z3 (ps := [(_, _)]) rfl (xs := [_]) rfl rfl rfl rfl rfl rfl rfl ?_
       refine Zq rfl rfl ?_
       refine Zbr trivial rfl rfl Tryz.s143 Tryz.z3 rfl rfl rfl rfl rfl rfl (by first | rfl | assumption | simp [Value.oneCell', str]) (by omega) (by omega) (ρ' := [(4, _), (8, _), (9, _), (10, _)]) ⟨rfl, rfl, rfl, rfl, trivial⟩ rfl rfl rfl ?_
       refine ya rfl rfl ?_
       refine Zch 31 503 rfl rfl rfl ?_
       refine Zd (ρ' := [(3, _), (4, _), (8, _), (9, _), (10, _)]) ⟨rfl, rfl, rfl, rfl, rfl, trivial⟩ ?_
       refine Zaf (Zb (Za (Zf (Zas rfl rfl rfl (Zu (by omega))) rfl ?_)))
       refine ym rfl rfl (Zd (ρ' := [(3, _), (4, _), (8, _), (9, _), (10, _)]) ⟨rfl, rfl, rfl, rfl, rfl, trivial⟩ ?_)
       refine Zae ?_
       first
       | (refine ⟨m - 1, [(3, _), (4, _), (8, _), (9, _), (10, _)], [(503, _)], by omega, ⟨rfl, rfl, rfl, rfl, rfl, trivial⟩, ⟨rfl, trivial⟩, i + 1, by omega, hle4, false, w2 ++ [z], (by rw [List.length_append, intsC_append]; rfl), rfl, rfl, by rw [List.length_append]; simp; omega⟩)
       | (refine ⟨m - 1, [(3, _), (4, _), (8, _), (9, _), (10, _)], [(503, _)], by omega, ⟨rfl, rfl, rfl, rfl, rfl, trivial⟩, ⟨rfl, trivial⟩, i + 1, by omega, hle4, true, w, rfl, rfl, rfl, by omega⟩)
     ·
      refine Zs (Zb ?_)
      refine Zbv (fun ρ σ uc11 => ∃ (w2 : List Int), VLe uP uc11 ∧ σ = [(503, (none, .row 3 1 w2.length (intsC w2))), (6, (none, .box [.int .i64 (l[i]).1, .int .i64 (l[i]).2]))] ∧ ρ = [(3, .s 503), (6, .p 6 0), (8, .v (.slice ad l.length cap)), (9, .v (.int .i64 l.length)), (10, .v (.int .i64 i)), (4, .v (.bool false))] ∧ (uP = uc11 ∧ w2.length ≤ 2 * i + 1)) ?_ ?_
      ·
       refine Za (ya rfl rfl (Zd (ρ' := [(3, _), (4, _), (6, _), (8, _), (9, _), (10, _)]) ⟨rfl, rfl, rfl, rfl, rfl, rfl, trivial⟩ ?_))
       refine Zae ?_
       first
        | (refine ⟨[(3, _), (6, _), (8, _), (9, _), (10, _), (4, _)], [(503, _), (6, _)], ⟨rfl, rfl, rfl, rfl, rfl, rfl, trivial⟩, ⟨rfl, rfl, trivial⟩, w ++ [32], (VLe.refl _), (by first | rfl | (rw [List.length_append, intsC_append]; rfl)), rfl, ?_⟩
           exact ⟨rfl, by rw [List.length_append]; simp; omega⟩)
        | (refine ⟨[(3, _), (6, _), (8, _), (9, _), (10, _), (4, _)], [(503, _), (6, _)], ⟨rfl, rfl, rfl, rfl, rfl, rfl, trivial⟩, ⟨rfl, rfl, trivial⟩, w, (VLe.refl _), (by first | rfl | (rw [List.length_append, intsC_append]; rfl)), rfl, ?_⟩
           exact ⟨rfl, by omega⟩)
      ·
       rintro ρ σ uc11 ⟨w2, hlc11, rfl, rfl, ⟨rfl, hw2⟩⟩
       refine Za (ym rfl rfl (Zf (Zi rfl Tryz.f127' rfl (by decide) rfl) rfl ?_))
       refine Zf (Zj rfl Tryz.k3 rfl rfl rfl (vs := [_]) rfl rfl rfl) rfl ?_
       refine Zq rfl rfl ?_
       refine Zw (caps := []) trivial rfl rfl Tryz.c153 rfl (FnP.mono (lowerC_fn _ hbig _) ?_)
       rintro v u1 hle1 ⟨z, rfl⟩
       refine Zq rfl rfl ?_
       refine Zac trivial Tryz.s143 Tryz.z3 (ps := [(_, _)]) rfl (xs := [_]) rfl rfl rfl rfl rfl rfl rfl ?_
       refine Zq rfl rfl ?_
       refine Zbr trivial rfl rfl Tryz.s143 Tryz.z3 rfl rfl rfl rfl rfl rfl (by first | rfl | assumption | simp [Value.oneCell', str]) (by omega) (by omega) (ρ' := [(4, _), (8, _), (9, _), (10, _)]) ⟨rfl, rfl, rfl, rfl, trivial⟩ rfl rfl rfl ?_
       refine ya rfl rfl ?_
       refine Zch 31 503 rfl rfl rfl ?_
       refine Zd (ρ' := [(3, _), (4, _), (8, _), (9, _), (10, _)]) ⟨rfl, rfl, rfl, rfl, rfl, trivial⟩ ?_
       refine Zaf (Zb (Za (Zf (Zas rfl rfl rfl (Zu (by omega))) rfl ?_)))
       refine ym rfl rfl (Zd (ρ' := [(3, _), (4, _), (8, _), (9, _), (10, _)]) ⟨rfl, rfl, rfl, rfl, rfl, trivial⟩ ?_)
       refine Zae ?_
       first
       | (refine ⟨m - 1, [(3, _), (4, _), (8, _), (9, _), (10, _)], [(503, _)], by omega, ⟨rfl, rfl, rfl, rfl, rfl, trivial⟩, ⟨rfl, trivial⟩, i + 1, by omega, hle4, false, w2 ++ [z], (by rw [List.length_append, intsC_append]; rfl), rfl, rfl, by rw [List.length_append]; simp; omega⟩)
       | (refine ⟨m - 1, [(3, _), (4, _), (8, _), (9, _), (10, _)], [(503, _)], by omega, ⟨rfl, rfl, rfl, rfl, rfl, trivial⟩, ⟨rfl, trivial⟩, i + 1, by omega, hle4, true, w, rfl, rfl, rfl, by omega⟩)
    ·
     iterate 3 refine Zo rfl rfl rfl rfl ?_
     refine Zf (Zm rfl rfl rfl) rfl (Zd (ρ' := [(3, _), (6, _), (8, _), (9, _), (10, _), (22, _)]) ⟨rfl, rfl, rfl, rfl, rfl, rfl, trivial⟩ ?_)
     refine Zb ?_
     refine Zby rfl (rfl) ?_
     refine Zs (Zb ?_)
     refine Zbv (fun ρ σ uc11 => ∃ (w2 : List Int), VLe uP uc11 ∧ σ = [(503, (none, .row 3 1 w2.length (intsC w2))), (6, (none, .box [.int .i64 (l[i]).1, .int .i64 (l[i]).2]))] ∧ ρ = [(3, .s 503), (6, .p 6 0), (8, .v (.slice ad l.length cap)), (9, .v (.int .i64 l.length)), (10, .v (.int .i64 i)), (4, .v (.bool false))] ∧ (uP = uc11 ∧ w2.length ≤ 2 * i + 1)) ?_ ?_
     ·
      refine Za (ya rfl rfl (Zd (ρ' := [(3, _), (4, _), (6, _), (8, _), (9, _), (10, _)]) ⟨rfl, rfl, rfl, rfl, rfl, rfl, trivial⟩ ?_))
      refine Zae ?_
      first
       | (refine ⟨[(3, _), (6, _), (8, _), (9, _), (10, _), (4, _)], [(503, _), (6, _)], ⟨rfl, rfl, rfl, rfl, rfl, rfl, trivial⟩, ⟨rfl, rfl, trivial⟩, w ++ [32], (VLe.refl _), (by first | rfl | (rw [List.length_append, intsC_append]; rfl)), rfl, ?_⟩
          exact ⟨rfl, by rw [List.length_append]; simp; omega⟩)
       | (refine ⟨[(3, _), (6, _), (8, _), (9, _), (10, _), (4, _)], [(503, _), (6, _)], ⟨rfl, rfl, rfl, rfl, rfl, rfl, trivial⟩, ⟨rfl, rfl, trivial⟩, w, (VLe.refl _), (by first | rfl | (rw [List.length_append, intsC_append]; rfl)), rfl, ?_⟩
          exact ⟨rfl, by omega⟩)
     ·
      rintro ρ σ uc11 ⟨w2, hlc11, rfl, rfl, ⟨rfl, hw2⟩⟩
      refine Za (ym rfl rfl (Zf (Zi rfl Tryz.f127' rfl (by decide) rfl) rfl ?_))
      refine Zf (Zj rfl Tryz.k3 rfl rfl rfl (vs := [_]) rfl rfl rfl) rfl ?_
      refine Zq rfl rfl ?_
      refine Zw (caps := []) trivial rfl rfl Tryz.c153 rfl (FnP.mono (lowerC_fn _ hbig _) ?_)
      rintro v u1 hle1 ⟨z, rfl⟩
      refine Zq rfl rfl ?_
      refine Zac trivial Tryz.s143 Tryz.z3 (ps := [(_, _)]) rfl (xs := [_]) rfl rfl rfl rfl rfl rfl rfl ?_
      refine Zq rfl rfl ?_
      refine Zbr trivial rfl rfl Tryz.s143 Tryz.z3 rfl rfl rfl rfl rfl rfl (by first | rfl | assumption | simp [Value.oneCell', str]) (by omega) (by omega) (ρ' := [(4, _), (8, _), (9, _), (10, _)]) ⟨rfl, rfl, rfl, rfl, trivial⟩ rfl rfl rfl ?_
      refine ya rfl rfl ?_
      refine Zch 31 503 rfl rfl rfl ?_
      refine Zd (ρ' := [(3, _), (4, _), (8, _), (9, _), (10, _)]) ⟨rfl, rfl, rfl, rfl, rfl, trivial⟩ ?_
      refine Zaf (Zb (Za (Zf (Zas rfl rfl rfl (Zu (by omega))) rfl ?_)))
      refine ym rfl rfl (Zd (ρ' := [(3, _), (4, _), (8, _), (9, _), (10, _)]) ⟨rfl, rfl, rfl, rfl, rfl, trivial⟩ ?_)
      refine Zae ?_
      first
      | (refine ⟨m - 1, [(3, _), (4, _), (8, _), (9, _), (10, _)], [(503, _)], by omega, ⟨rfl, rfl, rfl, rfl, rfl, trivial⟩, ⟨rfl, trivial⟩, i + 1, by omega, hle4, false, w2 ++ [z], (by rw [List.length_append, intsC_append]; rfl), rfl, rfl, by rw [List.length_append]; simp; omega⟩)
      | (refine ⟨m - 1, [(3, _), (4, _), (8, _), (9, _), (10, _)], [(503, _)], by omega, ⟨rfl, rfl, rfl, rfl, rfl, trivial⟩, ⟨rfl, trivial⟩, i + 1, by omega, hle4, true, w, rfl, rfl, rfl, by omega⟩)
  ·
   skip
   refine Zat ?_
   refine Zp (Zp ?_)
   refine Zah ?_
   refine Zb (Zc (Za (ym rfl rfl ?_)))
   refine Zbm 503 rfl ?_
   intro ad503 cap503 u503 hle503z hsl503
   refine Zq rfl rfl ?_
   refine Zw (caps := []) trivial rfl rfl Tryz.c154 rfl (FnP.mono (ktext_fn w (by omega) _ u503 ⟨_, _, rfl, hsl503⟩) ?_)
   rintro v u1 hle1 ⟨t, rfl⟩
   refine ya rfl rfl (Zd (ρ' := [(2, _)]) ⟨rfl, trivial⟩ ?_)
   refine Zb (Zv ?_)
   refine Zav (.tmp rfl) ?_
   exact ⟨_, rfl⟩
end Go.Proofs.Ytoajhdnfdfbmaaa
namespace Go.Eng
open Go Go.RowKit
section
variable {F : Fx} {ρ : Env} {σ : Own} {u : View} {Q : Post} {σS : Own} {uS : View} {o : Oper}
theorem y_slice_hiK {x hi : Operand} {t e : TypeId} {sz by' n cap i : Nat} {ad : Option Addr} {k : IntKind} {z : Int} (ho : o.op = .slice t x none (some hi) none) (hS : tyS F.P t = some (e, sz, by')) (hx : opv ρ x = some (.v (.slice ad n cap)))
  (hhi : opv ρ hi = some (.v (.int k z))) (hz : z = (i : Int)) (hi' : i ≤ cap) : Yld F σS uS ρ σ u o (.v (.slice (if cap = 0 then ad else ad.map (·.add (0 * sz))) i cap)) := by
 intro bk hd a w hR
 subst hz
 refine ⟨_, rfl, fun w' _ => ?_⟩
 obtain ⟨inf, hu, hinf, rfl, _⟩ := tyS_some hS
 have hb : (Instr.sliceBounds true n cap none (some (.int k (i : Int))) none).run F.P w' = .ok (0, i, cap) w' := by
  simp [Instr.sliceBounds, Instr.sliceBound, asIntOf, hi']
 simp [execOp, ho, hR.op hx, hR.op hhi, Instr.sliceAt, run_underlying hu, Instr.slice, hb, sizeOf, typeInfo, hinf]
end
theorem SlC.uptoK {u : View} {ad : Option Addr} {n cap sz i : Nat} {xs : List Value} (h : SlC u ad n cap sz xs) (hi : i ≤ n) : SlC u (if cap = 0 then ad else ad.map (·.add (0 * sz))) i cap sz (xs.take (i * sz)) := by
 obtain ⟨h1, h2, h3, h4⟩ := h
 have hm : i * sz ≤ n * sz := Nat.mul_le_mul_right _ hi
 refine ⟨by rw [List.length_take, h1]; omega, by omega, h3, fun hn => ?_⟩
 obtain ⟨b, off, c, T, fr, rfl, hu, hc⟩ := h4 (by omega)
 rw [if_neg (by omega)]
 refine ⟨b, off, c, T, fr, by simp [add_eq], hu, ?_⟩
 rw [← hc]
 unfold cut
 rw [List.take_take, Nat.min_eq_left hm]
end Go.Eng
namespace Go.Proofs.Ytoajhdnfdfbmaaa
open Go Go.Eng
set_option linter.unusedSimpArgs false
set_option linter.unusedVariables false
set_option maxRecDepth 4000
theorem letter3_fn (c : UInt8) (u : View) : FnP Tryz.prog 66 [.int .u8 c.toNat] u fun r _ => ∃ b, r = .bool b := by
 refine FnP.intro [.tmp 2] Tryz.func66 rfl rfl rfl ?_
 intro w0 D hw0
 refine Zc (Za (ya rfl rfl (Zd (ρ' := [(0, _)]) ⟨rfl, trivial⟩ ?_)))
 refine Zb (Zc (Za (ym rfl rfl (Zf (Zbw rfl rfl rfl) rfl ?_))))
 refine ym rfl rfl ?_
 refine Zad 5 rfl (fun hg1_2 => ?_) (fun hg1_2 => ?_)
 ·
  refine Zk rfl rfl (ym rfl rfl (Zk rfl rfl (Zf (y_leq rfl rfl rfl) rfl ?_)))
  refine Zf (Zl rfl rfl rfl) rfl (ym rfl rfl ?_)
  refine Zad 9 rfl (fun hg1_6 => ?_) (fun hg1_6 => ?_)
  ·
   iterate 3 refine Zo rfl rfl rfl rfl ?_
   refine Zab rfl rfl rfl ?_
   refine Zab rfl rfl rfl ?_
   refine Zo rfl rfl rfl rfl (Zf (Zl rfl rfl rfl) rfl (ya rfl rfl (Zd (ρ' := [(2, _)]) ⟨rfl, trivial⟩ ?_)))
   refine Zb (Zv ?_)
   refine Zav (.tmp rfl) ?_
   exact ⟨_, rfl⟩
  ·
   refine Zk rfl rfl (ym rfl rfl (Zk rfl rfl (Zf (Zbw rfl rfl rfl) rfl ?_)))
   refine Zk rfl rfl (ym rfl rfl ?_)
   refine Zad 12 rfl (fun hg1_9 => ?_) (fun hg1_9 => ?_)
   ·
    refine Zk rfl rfl (ym rfl rfl (Zk rfl rfl (Zf (y_leq rfl rfl rfl) rfl ?_)))
    refine Zk rfl rfl (Zf (Zl rfl rfl rfl) rfl (Zf (Zm rfl rfl rfl) rfl (ya rfl rfl (Zd (ρ' := [(2, _)]) ⟨rfl, trivial⟩ ?_))))
    refine Zb (Zv ?_)
    refine Zav (.tmp rfl) ?_
    exact ⟨_, rfl⟩
   ·
    refine Zo rfl rfl rfl rfl (Zo rfl rfl rfl rfl (Zk rfl rfl (Zf (Zm rfl rfl rfl) rfl (Zf (Zm rfl rfl rfl) rfl (ya rfl rfl (Zd (ρ' := [(2, _)]) ⟨rfl, trivial⟩ ?_))))))
    refine Zb (Zv ?_)
    refine Zav (.tmp rfl) ?_
    exact ⟨_, rfl⟩
 ·
  refine Zo rfl rfl rfl rfl (Zo rfl rfl rfl rfl (Zf (Zm rfl rfl rfl) rfl (ym rfl rfl (Zk rfl rfl (ym rfl rfl (Zk rfl rfl (Zf (Zbw rfl rfl rfl) rfl ?_)))))))
  refine Zk rfl rfl (ym rfl rfl ?_)
  refine Zad 12 rfl (fun hg1_9 => ?_) (fun hg1_9 => ?_)
  ·
   refine Zk rfl rfl (ym rfl rfl (Zk rfl rfl (Zf (y_leq rfl rfl rfl) rfl ?_)))
   refine Zk rfl rfl (Zf (Zl rfl rfl rfl) rfl (Zf (Zm rfl rfl rfl) rfl (ya rfl rfl (Zd (ρ' := [(2, _)]) ⟨rfl, trivial⟩ ?_))))
   refine Zb (Zv ?_)
   refine Zav (.tmp rfl) ?_
   exact ⟨_, rfl⟩
  ·
   refine Zo rfl rfl rfl rfl (Zo rfl rfl rfl rfl (Zk rfl rfl (Zf (Zm rfl rfl rfl) rfl (Zf (Zm rfl rfl rfl) rfl (ya rfl rfl (Zd (ρ' := [(2, _)]) ⟨rfl, trivial⟩ ?_))))))
   refine Zb (Zv ?_)
   refine Zav (.tmp rfl) ?_
   exact ⟨_, rfl⟩
theorem part_fn (c : UInt8) (u : View) : FnP Tryz.prog 93 [.int .u8 c.toNat] u fun r _ => ∃ b, r = .bool b := by
 refine FnP.intro [.tmp 2] Tryz.func93 rfl rfl rfl ?_
 intro w0 D hw0
 refine Zc (Za (ya rfl rfl (Zd (ρ' := [(0, _)]) ⟨rfl, trivial⟩ ?_)))
 refine Zb (Zc (Za ?_))
 refine Zbc 26 28 (fun _ => True) (ρk := []) trivial ?_ fun mb1_25 hm1_25 => ?_
 ·
  refine ym rfl rfl (Zq rfl rfl ?_)
  refine Zw (caps := []) trivial rfl rfl Tryz.c66 rfl (FnP.mono (letter3_fn c u) ?_)
  rintro v u1 hle1 ⟨b, rfl⟩
  refine ym rfl rfl ?_
  refine Zad 5 rfl (fun hg1_2 => ?_) (fun hg1_2 => ?_)
  ·
   iterate 3 refine Zo rfl rfl rfl rfl ?_
   refine Zab rfl rfl rfl ?_
   refine Zab rfl rfl rfl ?_
   refine Zo rfl rfl rfl rfl (Zf (Zl rfl rfl rfl) rfl (ym rfl rfl (Zo rfl rfl rfl rfl (Zo rfl rfl rfl rfl (Zf (Zl rfl rfl rfl) rfl (ym rfl rfl (Zo rfl rfl rfl rfl ?_)))))))
   refine Zo rfl rfl rfl rfl (Zf (Zl rfl rfl rfl) rfl (ym rfl rfl (Zo rfl rfl rfl rfl (Zo rfl rfl rfl rfl (Zf (Zl rfl rfl rfl) rfl (ym rfl rfl (Zo rfl rfl rfl rfl ?_)))))))
   refine Zo rfl rfl rfl rfl (Zf (Zl rfl rfl rfl) rfl ?_)
   exact Zx rfl trivial (trivial)
  ·
   refine Zk rfl rfl (ym rfl rfl (Zk rfl rfl (Zf (Zbw rfl rfl rfl) rfl ?_)))
   refine Zk rfl rfl (ym rfl rfl ?_)
   refine Zad 8 rfl (fun hg1_5 => ?_) (fun hg1_5 => ?_)
   ·
    refine Zk rfl rfl (ym rfl rfl (Zk rfl rfl (Zf (y_leq rfl rfl rfl) rfl ?_)))
    refine Zk rfl rfl (Zf (Zl rfl rfl rfl) rfl (Zf (Zm rfl rfl rfl) rfl (ym rfl rfl ?_)))
    refine Zad 13 rfl (fun hg1_10 => ?_) (fun hg1_10 => ?_)
    ·
     refine Zo rfl rfl rfl rfl (Zo rfl rfl rfl rfl (Zf (Zl rfl rfl rfl) rfl (ym rfl rfl (Zo rfl rfl rfl rfl (Zo rfl rfl rfl rfl (Zf (Zl rfl rfl rfl) rfl (ym rfl rfl ?_)))))))
     refine Zo rfl rfl rfl rfl (Zo rfl rfl rfl rfl (Zf (Zl rfl rfl rfl) rfl (ym rfl rfl (Zo rfl rfl rfl rfl (Zo rfl rfl rfl rfl (Zf (Zl rfl rfl rfl) rfl ?_))))))
     exact Zx rfl trivial (trivial)
    ·
     refine Zk rfl rfl (ym rfl rfl (Zk rfl rfl (Zf (Zay rfl rfl rfl) rfl ?_)))
     refine Zf (Zm rfl rfl rfl) rfl (ym rfl rfl ?_)
     refine Zad 17 rfl (fun hg1_14 => ?_) (fun hg1_14 => ?_)
     ·
      refine Zo rfl rfl rfl rfl (Zo rfl rfl rfl rfl (Zf (Zl rfl rfl rfl) rfl (ym rfl rfl (Zo rfl rfl rfl rfl (Zo rfl rfl rfl rfl (Zf (Zl rfl rfl rfl) rfl (ym rfl rfl ?_)))))))
      refine Zo rfl rfl rfl rfl (Zo rfl rfl rfl rfl (Zf (Zl rfl rfl rfl) rfl ?_))
      exact Zx rfl trivial (trivial)
     ·
      refine Zk rfl rfl (ym rfl rfl (Zk rfl rfl (Zf (Zay rfl rfl rfl) rfl ?_)))
      refine Zf (Zm rfl rfl rfl) rfl (ym rfl rfl ?_)
      refine Zad 21 rfl (fun hg1_18 => ?_) (fun hg1_18 => ?_)
      ·
       refine Zo rfl rfl rfl rfl (Zo rfl rfl rfl rfl (Zf (Zl rfl rfl rfl) rfl (ym rfl rfl (Zo rfl rfl rfl rfl (Zo rfl rfl rfl rfl (Zf (Zl rfl rfl rfl) rfl ?_))))))
       exact Zx rfl trivial (trivial)
      ·
       refine Zk rfl rfl (ym rfl rfl (Zk rfl rfl (Zf (Zay rfl rfl rfl) rfl ?_)))
       refine Zf (Zm rfl rfl rfl) rfl (ym rfl rfl ?_)
       refine Zad 25 rfl (fun hg1_22 => ?_) (fun hg1_22 => ?_)
       ·
        refine Zo rfl rfl rfl rfl (Zo rfl rfl rfl rfl (Zf (Zl rfl rfl rfl) rfl ?_))
        exact Zx rfl trivial (trivial)
       ·
        refine Zk rfl rfl (ym rfl rfl (Zk rfl rfl (Zf (Zay rfl rfl rfl) rfl ?_)))
        refine Zf (Zm rfl rfl rfl) rfl ?_
        exact Zx rfl trivial (trivial)
   ·
    refine Zo rfl rfl rfl rfl (Zo rfl rfl rfl rfl (Zk rfl rfl (Zf (Zm rfl rfl rfl) rfl (Zf (Zm rfl rfl rfl) rfl (ym rfl rfl (Zk rfl rfl (ym rfl rfl ?_)))))))
    refine Zk rfl rfl (Zf (Zay rfl rfl rfl) rfl ?_)
    refine Zf (Zm rfl rfl rfl) rfl (ym rfl rfl ?_)
    refine Zad 17 rfl (fun hg1_14 => ?_) (fun hg1_14 => ?_)
    ·
     refine Zo rfl rfl rfl rfl (Zo rfl rfl rfl rfl (Zf (Zl rfl rfl rfl) rfl (ym rfl rfl (Zo rfl rfl rfl rfl (Zo rfl rfl rfl rfl (Zf (Zl rfl rfl rfl) rfl (ym rfl rfl ?_)))))))
     refine Zo rfl rfl rfl rfl (Zo rfl rfl rfl rfl (Zf (Zl rfl rfl rfl) rfl ?_))
     exact Zx rfl trivial (trivial)
    ·
     refine Zk rfl rfl (ym rfl rfl (Zk rfl rfl (Zf (Zay rfl rfl rfl) rfl ?_)))
     refine Zf (Zm rfl rfl rfl) rfl (ym rfl rfl ?_)
     refine Zad 21 rfl (fun hg1_18 => ?_) (fun hg1_18 => ?_)
     ·
      refine Zo rfl rfl rfl rfl (Zo rfl rfl rfl rfl (Zf (Zl rfl rfl rfl) rfl (ym rfl rfl (Zo rfl rfl rfl rfl (Zo rfl rfl rfl rfl (Zf (Zl rfl rfl rfl) rfl ?_))))))
      exact Zx rfl trivial (trivial)
     ·
      refine Zk rfl rfl (ym rfl rfl (Zk rfl rfl (Zf (Zay rfl rfl rfl) rfl ?_)))
      refine Zf (Zm rfl rfl rfl) rfl (ym rfl rfl ?_)
      refine Zad 25 rfl (fun hg1_22 => ?_) (fun hg1_22 => ?_)
      ·
       refine Zo rfl rfl rfl rfl (Zo rfl rfl rfl rfl (Zf (Zl rfl rfl rfl) rfl ?_))
       exact Zx rfl trivial (trivial)
      ·
       refine Zk rfl rfl (ym rfl rfl (Zk rfl rfl (Zf (Zay rfl rfl rfl) rfl ?_)))
       refine Zf (Zm rfl rfl rfl) rfl ?_
       exact Zx rfl trivial (trivial)
 refine ya rfl rfl (Zd (ρ' := [(2, _)]) ⟨rfl, trivial⟩ ?_)
 refine Zb (Zv ?_)
 refine Zav (.tmp rfl) ?_
 exact ⟨_, rfl⟩
theorem kword_fn (s : Bs) (i : Nat) (hi : i ≤ s.length) (hs : s.length ≤ 1000000000) (u : View) : FnP Tryz.prog 67 [str s, .int .i64 i] u fun r _ => ∃ j : Nat, r = .int .i64 j ∧ i ≤ j ∧ j ≤ s.length := by
 refine FnP.intro [.tmp 4] Tryz.func67 rfl rfl rfl ?_
 intro w0 D hw0
 refine Zc (Za (ya rfl rfl (Zd (ρ' := [(0, _), (1, _)]) ⟨rfl, rfl, trivial⟩ ?_)))
 refine Zb (Zc (Zaa ?_))
 refine Zau (fun m ρ σ u' => ∃ j : Nat, j + m = s.length - i ∧ VLe u u' ∧ σ = [] ∧ ρ = [(0, .v (str s)), (1, .v (.int .i64 ((i + j : Nat) : Int)))] ∧ (u = u')) (s.length - i) ?_ ?_
 ·
  refine ⟨[(0, _), (1, _)], [], ⟨rfl, rfl, trivial⟩, trivial, 0, by omega, VLe.refl _, (by first | rfl | simp), (by first | rfl | (simp only [List.cons.injEq, Prod.mk.injEq, SV.v.injEq, Value.int.injEq, true_and, and_true]; omega) | simp), ?_⟩
  rfl
 ·
  rintro mj ρ σ u' ⟨j, hi1, hle1, rfl, rfl, rfl⟩
  refine Zc (Zc (Za (ym rfl rfl (ym rfl rfl (Zf (Zan rfl rfl Tryz.str9 rfl) rfl ?_)))))
  refine Zf (Zbh rfl rfl rfl) rfl ?_
  refine ym rfl rfl ?_
  refine Zad 9 rfl (fun hg1_4 => ?_) (fun hg1_4 => ?_)
  ·
   refine Zk rfl rfl (ym rfl rfl ?_)
   have hlt : i + j < s.length := by have := of_decide_eq_true hg1_4; omega
   obtain ⟨c, hc, hc2⟩ := byte_at hlt
   refine Zk rfl rfl (ym rfl rfl (Zk rfl rfl (Zf (Zao rfl Tryz.str9 rfl rfl (j := i + j) rfl hc) rfl ?_)))
   refine Zk rfl rfl (Zq rfl rfl ?_)
   refine Zw (caps := []) trivial rfl rfl Tryz.c93 rfl (FnP.mono (part_fn c _) ?_)
   rintro v u1 hle1 ⟨b, rfl⟩
   refine Zf (Zl rfl rfl rfl) rfl (Zd (ρ' := [(0, _), (1, _), (14, _)]) ⟨rfl, rfl, rfl, trivial⟩ ?_)
   refine Zb ?_
   refine Zn rfl (fun hb1 => ?_) (fun hb1 => ?_)
   ·
    refine Zs (Zb (Zaa (Za (ym rfl rfl (Zf (Zas rfl rfl rfl (Zu (by omega))) rfl ?_)))))
    refine ya rfl rfl (Zd (ρ' := [(0, _), (1, _)]) ⟨rfl, rfl, trivial⟩ ?_)
    refine Zaf (Zae ?_)
    refine ⟨mj - 1, [(0, _), (1, _)], [], by omega, ⟨rfl, rfl, trivial⟩, trivial, j + 1, by omega, (VLe.refl _), (by first | rfl | simp), (by first | rfl | (simp only [List.cons.injEq, Prod.mk.injEq, SV.v.injEq, Value.int.injEq, true_and, and_true]; omega) | simp), ?_⟩
    rfl
   ·
    refine Zat ?_
    refine Zp (Zp ?_)
    refine Zah ?_
    refine Zb (Zc (Za (ym rfl rfl (ya rfl rfl (Zd (ρ' := [(4, _)]) ⟨rfl, trivial⟩ ?_)))))
    refine Zb (Zv ?_)
    refine Zav (.tmp rfl) ?_
    exact ⟨i + j, rfl, by omega, by omega⟩
  ·
   iterate 4 refine Zo rfl rfl rfl rfl ?_
   refine Zf (Zm rfl rfl rfl) rfl (Zd (ρ' := [(0, _), (1, _), (14, _)]) ⟨rfl, rfl, rfl, trivial⟩ ?_)
   refine Zb ?_
   refine Zby rfl (rfl) ?_
   refine Zat ?_
   refine Zp (Zp ?_)
   refine Zah ?_
   refine Zb (Zc (Za (ym rfl rfl (ya rfl rfl (Zd (ρ' := [(4, _)]) ⟨rfl, trivial⟩ ?_)))))
   refine Zb (Zv ?_)
   refine Zav (.tmp rfl) ?_
   exact ⟨i + j, rfl, by omega, by omega⟩
theorem name_fn (s : Bs) (hs : s.length ≤ 1000000000) (u : View) : FnP Tryz.prog 28 [str s] u fun r _ => ∃ b, r = .bool b ∧ (b = true → s ≠ []) := by
 refine FnP.intro [.tmp 2] Tryz.func28 rfl rfl rfl ?_
 intro w0 D hw0
 refine Zc (Za (ya rfl rfl (Zd (ρ' := [(0, _)]) ⟨rfl, trivial⟩ ?_)))
 refine Zb (Zc (Za (ym rfl rfl (Zf (Zan rfl rfl Tryz.str9 rfl) rfl ?_))))
 refine Zf (Zbw rfl rfl rfl) rfl ?_
 refine ym rfl rfl ?_
 refine Zad 6 rfl (fun hg1_3 => ?_) (fun hg1_3 => ?_)
 ·
  refine Zk rfl rfl (ym rfl rfl (Zk rfl rfl (Zf (Zan rfl rfl Tryz.str9 rfl) rfl ?_)))
  refine Zk rfl rfl (Zf (y_leq rfl rfl rfl) rfl ?_)
  refine Zf (Zl rfl rfl rfl) rfl (ym rfl rfl ?_)
  refine Zad 11 rfl (fun hg1_8 => ?_) (fun hg1_8 => ?_)
  ·
   refine Zk rfl rfl (ym rfl rfl ?_)
   have hne : s ≠ [] := by
    rintro rfl
    exact absurd (of_decide_eq_true hg1_3) (by decide)
   obtain ⟨c, hc, hc2⟩ := byte_at (s := s) (i := 0) (by cases s with
    | nil => exact absurd rfl hne
    | cons a b => simp)
   refine Zk rfl rfl (Zf (Zao rfl Tryz.str9 rfl rfl (by first | rfl | omega) (by assumption)) rfl ?_)
   refine Zk rfl rfl (Zq rfl rfl ?_)
   refine Zw (caps := []) trivial rfl rfl Tryz.c66 rfl (FnP.mono (letter3_fn c u) ?_)
   rintro v u1 hle1 ⟨b, rfl⟩
   refine Zf (Zl rfl rfl rfl) rfl (ym rfl rfl ?_)
   refine Zad 16 rfl (fun hg1_13 => ?_) (fun hg1_13 => ?_)
   ·
    refine Zk rfl rfl (ym rfl rfl (Zk rfl rfl (Zq rfl rfl ?_)))
    refine Zw (caps := []) trivial rfl rfl Tryz.c67 rfl (FnP.mono (kword_fn s 0 (Nat.zero_le _) (by omega) u) ?_)
    rintro v u1 hle1 ⟨j, rfl, hj1, hj2⟩
    refine Zk rfl rfl (ym rfl rfl (Zk rfl rfl (Zf (Zan rfl rfl Tryz.str9 rfl) rfl ?_)))
    refine Zk rfl rfl (Zf (Zay rfl rfl rfl) rfl ?_)
    refine Zf (Zl rfl rfl rfl) rfl (ya rfl rfl (Zd (ρ' := [(2, _)]) ⟨rfl, trivial⟩ ?_))
    refine Zb (Zv ?_)
    refine Zav (.tmp rfl) ?_
    refine ⟨_, rfl, fun h => ?_⟩; first | exact hne | cases h | (rintro rfl; exact absurd h (by decide)) | (rintro rfl; exact absurd hg1_3 (by decide))
   ·
    iterate 5 refine Zo rfl rfl rfl rfl ?_
    refine Zf (Zm rfl rfl rfl) rfl (ya rfl rfl (Zd (ρ' := [(2, _)]) ⟨rfl, trivial⟩ ?_))
    refine Zb (Zv ?_)
    refine Zav (.tmp rfl) ?_
    refine ⟨_, rfl, fun h => ?_⟩; first | exact hne | cases h | (rintro rfl; exact absurd h (by decide)) | (rintro rfl; exact absurd hg1_3 (by decide))
  ·
   iterate 3 refine Zo rfl rfl rfl rfl ?_
   refine Zf (Zm rfl rfl rfl) rfl (ym rfl rfl ?_)
   iterate 5 refine Zo rfl rfl rfl rfl ?_
   refine Zf (Zm rfl rfl rfl) rfl (ya rfl rfl (Zd (ρ' := [(2, _)]) ⟨rfl, trivial⟩ ?_))
   refine Zb (Zv ?_)
   refine Zav (.tmp rfl) ?_
   refine ⟨_, rfl, fun h => ?_⟩; first | exact hne | cases h | (rintro rfl; exact absurd h (by decide)) | (rintro rfl; exact absurd hg1_3 (by decide))
 ·
  iterate 3 refine Zo rfl rfl rfl rfl ?_
  refine Zf (Zm rfl rfl rfl) rfl (ym rfl rfl ?_)
  iterate 3 refine Zo rfl rfl rfl rfl ?_
  refine Zf (Zm rfl rfl rfl) rfl (ym rfl rfl ?_)
  iterate 5 refine Zo rfl rfl rfl rfl ?_
  refine Zf (Zm rfl rfl rfl) rfl (ya rfl rfl (Zd (ρ' := [(2, _)]) ⟨rfl, trivial⟩ ?_))
  refine Zb (Zv ?_)
  refine Zav (.tmp rfl) ?_
  refine ⟨_, rfl, fun h => ?_⟩; first | exact hne | cases h | (rintro rfl; exact absurd h (by decide)) | (rintro rfl; exact absurd hg1_3 (by decide))
theorem mem_take_lt {s : Bs} {i : Nat} {c : UInt8} (hc : s[i]? = some c) (h10 : c ≠ 10) (h : (10 : UInt8) ∉ s.take i) : (10 : UInt8) ∉ s.take (i + 1) := by
 obtain ⟨hlt, rfl⟩ := List.getElem?_eq_some_iff.1 hc
 rw [List.take_succ_eq_append_getElem hlt]
 intro hm
 rcases List.mem_append.1 hm with hm | hm
 ·
  exact h hm
 ·
  exact h10 (List.mem_singleton.1 hm).symm
theorem line3_fn (s : Bs) (hs : s.length ≤ 10000000) (u : View) : FnP Tryz.prog 133 [str s] u fun r _ => ∃ b, r = .bool b := by
 refine FnP.intro [.tmp 2] Tryz.func133 rfl rfl rfl ?_
 intro w0 D hw0
 refine Zc (Za (ya rfl rfl (Zd (ρ' := [(0, _)]) ⟨rfl, trivial⟩ ?_)))
 refine Zb (Zc (Zc (Za (ym rfl rfl (Zq rfl rfl ?_)))))
 refine Zw (caps := []) trivial rfl rfl Tryz.c68 rfl (FnP.mono (kvalid_fn s (by omega) u) ?_)
 rintro v u1 hle1 ⟨b, rfl⟩
 refine Zf (Zbs rfl rfl) rfl ?_
 refine Zd (ρ' := [(0, _), (6, _)]) ⟨rfl, rfl, trivial⟩ ?_
 refine Zb ?_
 refine Zn rfl (fun hb1 => ?_) (fun hb1 => ?_)
 ·
  refine Zc (Za (ya rfl rfl (Zd (ρ' := [(2, _)]) ⟨rfl, trivial⟩ ?_)))
  refine Zb (Zv (Zh ?_))
  refine Zav (.tmp rfl) ?_
  exact ⟨_, rfl⟩
 ·
  refine Zs (Zb (Zc (Zc (Za (ya rfl rfl (Zd (ρ' := [(0, _), (3, _)]) ⟨rfl, rfl, trivial⟩ ?_))))))
  refine Zb (Zaa ?_)
  refine Zau (fun m ρ σ u' => ∃ i : Nat, i + m = s.length ∧ VLe u u' ∧ σ = [] ∧ ρ = [(0, .v (str s)), (3, .v (.int .i64 i))] ∧ (u = u')) (s.length) ?_ ?_
  ·
   refine ⟨[(0, _), (3, _)], [], ⟨rfl, rfl, trivial⟩, trivial, 0, by omega, VLe.refl _, (by first | rfl | simp), (by first | rfl | (simp only [List.cons.injEq, Prod.mk.injEq, SV.v.injEq, Value.int.injEq, true_and, and_true]; omega) | simp), ?_⟩
   rfl
  ·
   rintro m ρ σ u' ⟨i, hi4, hle4, rfl, rfl, rfl⟩
   refine Zc (Zc (Za (ym rfl rfl (ym rfl rfl (Zf (Zan rfl rfl Tryz.str9 rfl) rfl ?_)))))
   refine Zf (Zbh rfl rfl rfl) rfl ?_
   refine Zd (ρ' := [(0, _), (3, _), (10, _)]) ⟨rfl, rfl, rfl, trivial⟩ ?_
   refine Zb ?_
   refine Zn rfl (fun hb4 => ?_) (fun hb4 => ?_)
   ·
    have hlt : i < s.length := by have := of_decide_eq_true hb4; omega
    obtain ⟨c, hc, hc2⟩ := byte_at hlt
    refine Zs (Zb (Zc (Zaa (Zc (Za (ym rfl rfl (ym rfl rfl (Zf (Zao rfl Tryz.str9 rfl rfl (by first | rfl | omega) (by assumption)) rfl ?_))))))))
    refine Zf (Zay rfl rfl rfl) rfl ?_
    refine Zd (ρ' := [(0, _), (3, _), (16, _)]) ⟨rfl, rfl, rfl, trivial⟩ ?_
    refine Zb ?_
    refine Zn rfl (fun hb6 => ?_) (fun hb6 => ?_)
    ·
     refine Zc (Za (ya rfl rfl (Zd (ρ' := [(2, _)]) ⟨rfl, trivial⟩ ?_)))
     refine Zb (Zv (Zr (Zh (Zh (Zr (Zh ?_))))))
     refine Zav (.tmp rfl) ?_
     exact ⟨_, rfl⟩
    ·
     refine Zs (Zaf (Zb (Za (ym rfl rfl (Zf (Zas rfl rfl rfl (Zu (by omega))) rfl ?_)))))
     refine ya rfl rfl (Zd (ρ' := [(0, _), (3, _)]) ⟨rfl, rfl, trivial⟩ ?_)
     refine Zae ?_
     refine ⟨m - 1, [(0, _), (3, _)], [], by omega, ⟨rfl, rfl, trivial⟩, trivial, i + 1, by omega, hle4, (by first | rfl | simp), (by first | rfl | (simp only [List.cons.injEq, Prod.mk.injEq, SV.v.injEq, Value.int.injEq, true_and, and_true]; omega) | simp), ?_⟩
     rfl
   ·
    skip
    refine Zat ?_
    refine Zp (Zp ?_)
    refine Zah ?_
    refine Zb (Zc (Za (ya rfl rfl (Zd (ρ' := [(2, _)]) ⟨rfl, trivial⟩ ?_))))
    refine Zb (Zv ?_)
    refine Zav (.tmp rfl) ?_
    exact ⟨_, rfl⟩
theorem line4_fn (s : Bs) (hs : s.length ≤ 10000000) (u : View) : FnP Tryz.prog 29 [str s] u fun r _ => ∃ b, r = .bool b ∧ (b = true → (10 : UInt8) ∉ s) := by
 refine FnP.intro [.tmp 2] Tryz.func29 rfl rfl rfl ?_
 intro w0 D hw0
 refine Zc (Za (ya rfl rfl (Zd (ρ' := [(0, _)]) ⟨rfl, trivial⟩ ?_)))
 refine Zb (Zc (Zc (Za (ym rfl rfl (Zq rfl rfl ?_)))))
 refine Zw (caps := []) trivial rfl rfl Tryz.c68 rfl (FnP.mono (kvalid_fn s (by omega) u) ?_)
 rintro v u1 hle1 ⟨b, rfl⟩
 refine Zf (Zbs rfl rfl) rfl ?_
 refine Zd (ρ' := [(0, _), (6, _)]) ⟨rfl, rfl, trivial⟩ ?_
 refine Zb ?_
 refine Zn rfl (fun hb1 => ?_) (fun hb1 => ?_)
 ·
  refine Zc (Za (ya rfl rfl (Zd (ρ' := [(2, _)]) ⟨rfl, trivial⟩ ?_)))
  refine Zb (Zv (Zh ?_))
  refine Zav (.tmp rfl) ?_
  refine ⟨_, rfl, fun h => ?_⟩; first | exact hinv | cases h
 ·
  refine Zs (Zb (Zc (Zc (Za (ya rfl rfl (Zd (ρ' := [(0, _), (3, _)]) ⟨rfl, rfl, trivial⟩ ?_))))))
  refine Zb (Zaa ?_)
  refine Zau (fun m ρ σ u' => ∃ i : Nat, i + m = s.length ∧ VLe u u' ∧ σ = [] ∧ ρ = [(0, .v (str s)), (3, .v (.int .i64 i))] ∧ (u = u' ∧ (10 : UInt8) ∉ s.take i)) (s.length) ?_ ?_
  ·
   refine ⟨[(0, _), (3, _)], [], ⟨rfl, rfl, trivial⟩, trivial, 0, by omega, VLe.refl _, (by first | rfl | simp), (by first | rfl | (simp only [List.cons.injEq, Prod.mk.injEq, SV.v.injEq, Value.int.injEq, true_and, and_true]; omega) | simp), ?_⟩
   exact ⟨rfl, by simp⟩
  ·
   rintro m ρ σ u' ⟨i, hi4, hle4, rfl, rfl, ⟨rfl, hinv⟩⟩
   refine Zc (Zc (Za (ym rfl rfl (ym rfl rfl (Zf (Zan rfl rfl Tryz.str9 rfl) rfl ?_)))))
   refine Zf (Zbh rfl rfl rfl) rfl ?_
   refine Zd (ρ' := [(0, _), (3, _), (10, _)]) ⟨rfl, rfl, rfl, trivial⟩ ?_
   refine Zb ?_
   refine Zn rfl (fun hb4 => ?_) (fun hb4 => ?_)
   ·
    have hlt : i < s.length := by have := of_decide_eq_true hb4; omega
    obtain ⟨c, hc, hc2⟩ := byte_at hlt
    refine Zs (Zb (Zc (Zaa (Zc (Za (ym rfl rfl (ym rfl rfl (Zf (Zao rfl Tryz.str9 rfl rfl (by first | rfl | omega) (by assumption)) rfl ?_))))))))
    refine Zf (Zay rfl rfl rfl) rfl ?_
    refine Zd (ρ' := [(0, _), (3, _), (16, _)]) ⟨rfl, rfl, rfl, trivial⟩ ?_
    refine Zb ?_
    refine Zn rfl (fun hb6 => ?_) (fun hb6 => ?_)
    ·
     skip
     refine Zc (Za (ya rfl rfl (Zd (ρ' := [(2, _)]) ⟨rfl, trivial⟩ ?_)))
     refine Zb (Zv (Zr (Zh (Zh (Zr (Zh ?_))))))
     refine Zav (.tmp rfl) ?_
     refine ⟨_, rfl, fun h => ?_⟩; first | exact hinv | cases h
    ·
     have h10 : c ≠ 10 := by
      rintro rfl
      exact absurd hb6 (by decide)
     refine Zs (Zaf (Zb (Za (ym rfl rfl (Zf (Zas rfl rfl rfl (Zu (by omega))) rfl ?_)))))
     refine ya rfl rfl (Zd (ρ' := [(0, _), (3, _)]) ⟨rfl, rfl, trivial⟩ ?_)
     refine Zae ?_
     refine ⟨m - 1, [(0, _), (3, _)], [], by omega, ⟨rfl, rfl, trivial⟩, trivial, i + 1, by omega, hle4, (by first | rfl | simp), (by first | rfl | (simp only [List.cons.injEq, Prod.mk.injEq, SV.v.injEq, Value.int.injEq, true_and, and_true]; omega) | simp), ?_⟩
     exact ⟨rfl, mem_take_lt hc h10 hinv⟩
   ·
    have hge := of_decide_eq_false hb4
    rw [List.take_of_length_le (by omega)] at hinv
    refine Zat ?_
    refine Zp (Zp ?_)
    refine Zah ?_
    refine Zb (Zc (Za (ya rfl rfl (Zd (ρ' := [(2, _)]) ⟨rfl, trivial⟩ ?_))))
    refine Zb (Zv ?_)
    refine Zav (.tmp rfl) ?_
    refine ⟨_, rfl, fun h => ?_⟩; first | exact hinv | cases h
theorem hasText_fn (v : Value) (xs : List Bs) (s : Bs) (hl : xs.length ≤ 1000000) (u : View) (h : StrS u v xs) : FnP Tryz.prog 132 [v, str s] u fun r _ => ∃ b, r = .bool b := by
 obtain ⟨ad, cap, rfl, h1⟩ := h
 refine FnP.intro [.tmp 4] Tryz.func132 rfl rfl rfl ?_
 intro w0 D hw0
 refine Zc (Za (ya rfl rfl (Zd (ρ' := [(0, _), (1, _)]) ⟨rfl, rfl, trivial⟩ ?_)))
 refine Zb (Zc (Zc (Za (ya rfl rfl (Zd (ρ' := [(0, _), (1, _), (5, _)]) ⟨rfl, rfl, rfl, trivial⟩ ?_)))))
 refine Zb (Zaa ?_)
 refine Zau (fun m ρ σ u' => ∃ i : Nat, i + m = xs.length ∧ VLe u u' ∧ σ = [] ∧ ρ = [(0, .v (.slice ad xs.length cap)), (1, .v (str s)), (5, .v (.int .i64 i))] ∧ (u = u')) (xs.length) ?_ ?_
 ·
  refine ⟨[(0, _), (1, _), (5, _)], [], ⟨rfl, rfl, rfl, trivial⟩, trivial, 0, by omega, VLe.refl _, (by first | rfl | simp), (by first | rfl | (simp only [List.cons.injEq, Prod.mk.injEq, SV.v.injEq, Value.int.injEq, true_and, and_true]; omega) | simp), ?_⟩
  rfl
 ·
  rintro m ρ σ u' ⟨i, hi2, hle2, rfl, rfl, rfl⟩
  refine Zc (Zc (Za (ym rfl rfl (ym rfl rfl (Zf (Zal rfl rfl Tryz.s34 rfl) rfl ?_)))))
  refine Zf (Zbh rfl rfl rfl) rfl ?_
  refine Zd (ρ' := [(0, _), (1, _), (5, _), (9, _)]) ⟨rfl, rfl, rfl, rfl, trivial⟩ ?_
  refine Zb ?_
  refine Zn rfl (fun hb2 => ?_) (fun hb2 => ?_)
  ·
   have hlt : i < xs.length := by have := of_decide_eq_true hb2; omega
   have hcc := cut_strsC (List.getElem?_eq_getElem hlt)
   refine Zs (Zb (Zc (Zaa (Zc (Za (ym rfl rfl (ym rfl rfl (Zf (Zai rfl Tryz.s34 rfl rfl (by assumption) (by first | rfl | omega) (by omega)) rfl ?_))))))))
   refine Zf (Zag rfl Tryz.k9 rfl (by assumption) (by omega) (by assumption) (vs := [_]) rfl rfl rfl rfl) rfl ?_
   refine ym rfl rfl (Zf (Zbg rfl rfl rfl) rfl ?_)
   refine Zd (ρ' := [(0, _), (1, _), (5, _), (17, _)]) ⟨rfl, rfl, rfl, rfl, trivial⟩ ?_
   refine Zb ?_
   refine Zn rfl (fun hb4 => ?_) (fun hb4 => ?_)
   ·
    refine Zc (Za (ya rfl rfl (Zd (ρ' := [(4, _)]) ⟨rfl, trivial⟩ ?_)))
    refine Zb (Zv (Zr (Zh (Zh (Zr (Zh ?_))))))
    refine Zav (.tmp rfl) ?_
    exact ⟨_, rfl⟩
   ·
    refine Zs (Zaf (Zb (Za (ym rfl rfl (Zf (Zas rfl rfl rfl (Zu (by omega))) rfl ?_)))))
    refine ya rfl rfl (Zd (ρ' := [(0, _), (1, _), (5, _)]) ⟨rfl, rfl, rfl, trivial⟩ ?_)
    refine Zae ?_
    refine ⟨m - 1, [(0, _), (1, _), (5, _)], [], by omega, ⟨rfl, rfl, rfl, trivial⟩, trivial, i + 1, by omega, hle2, (by first | rfl | simp), (by first | rfl | (simp only [List.cons.injEq, Prod.mk.injEq, SV.v.injEq, Value.int.injEq, true_and, and_true]; omega) | simp), ?_⟩
    rfl
  ·
   skip
   refine Zat ?_
   refine Zp (Zp ?_)
   refine Zah ?_
   refine Zb (Zc (Za (ya rfl rfl (Zd (ρ' := [(4, _)]) ⟨rfl, trivial⟩ ?_))))
   refine Zb (Zv ?_)
   refine Zav (.tmp rfl) ?_
   exact ⟨_, rfl⟩
theorem hasKey_fn (v : Value) (xs : List (Bs × Bs)) (s : Bs) (hl : xs.length ≤ 1000000) (u : View) (h : PrS u v xs) : FnP Tryz.prog 134 [v, str s] u fun r _ => ∃ b, r = .bool b := by
 obtain ⟨ad, cap, rfl, h1⟩ := h
 refine FnP.intro [.tmp 4] Tryz.func134 rfl rfl rfl ?_
 intro w0 D hw0
 refine Zc (Za (ya rfl rfl (Zd (ρ' := [(0, _), (1, _)]) ⟨rfl, rfl, trivial⟩ ?_)))
 refine Zb (Zc (Zc (Za (ya rfl rfl (Zd (ρ' := [(0, _), (1, _), (5, _)]) ⟨rfl, rfl, rfl, trivial⟩ ?_)))))
 refine Zb (Zaa ?_)
 refine Zau (fun m ρ σ u' => ∃ i : Nat, i + m = xs.length ∧ VLe u u' ∧ σ = [] ∧ ρ = [(0, .v (.slice ad xs.length cap)), (1, .v (str s)), (5, .v (.int .i64 i))] ∧ (u = u')) (xs.length) ?_ ?_
 ·
  refine ⟨[(0, _), (1, _), (5, _)], [], ⟨rfl, rfl, rfl, trivial⟩, trivial, 0, by omega, VLe.refl _, (by first | rfl | simp), (by first | rfl | (simp only [List.cons.injEq, Prod.mk.injEq, SV.v.injEq, Value.int.injEq, true_and, and_true]; omega) | simp), ?_⟩
  rfl
 ·
  rintro m ρ σ u' ⟨i, hi2, hle2, rfl, rfl, rfl⟩
  refine Zc (Zc (Za (ym rfl rfl (ym rfl rfl (Zf (Zal rfl rfl Tryz.s22 rfl) rfl ?_)))))
  refine Zf (Zbh rfl rfl rfl) rfl ?_
  refine Zd (ρ' := [(0, _), (1, _), (5, _), (9, _)]) ⟨rfl, rfl, rfl, rfl, trivial⟩ ?_
  refine Zb ?_
  refine Zn rfl (fun hb2 => ?_) (fun hb2 => ?_)
  ·
   have hlt : i < xs.length := by have := of_decide_eq_true hb2; omega
   have hcc := cut_pairsC (List.getElem?_eq_getElem hlt)
   refine Zs (Zb (Zc (Zaa (Zc (Za (ym rfl rfl (ym rfl rfl (Zf (Zai rfl Tryz.s22 rfl rfl (by assumption) (by first | rfl | omega) (by omega)) rfl ?_))))))))
   refine Zf (Zap rfl Tryz.f49' rfl (by decide) rfl) rfl ?_
   refine Zf (Zag rfl Tryz.k9 rfl (by assumption) (by omega) (by assumption) (vs := [_]) rfl rfl rfl rfl) rfl ?_
   refine ym rfl rfl (Zf (Zbg rfl rfl rfl) rfl ?_)
   refine Zd (ρ' := [(0, _), (1, _), (5, _), (18, _)]) ⟨rfl, rfl, rfl, rfl, trivial⟩ ?_
   refine Zb ?_
   refine Zn rfl (fun hb4 => ?_) (fun hb4 => ?_)
   ·
    refine Zc (Za (ya rfl rfl (Zd (ρ' := [(4, _)]) ⟨rfl, trivial⟩ ?_)))
    refine Zb (Zv (Zr (Zh (Zh (Zr (Zh ?_))))))
    refine Zav (.tmp rfl) ?_
    exact ⟨_, rfl⟩
   ·
    refine Zs (Zaf (Zb (Za (ym rfl rfl (Zf (Zas rfl rfl rfl (Zu (by omega))) rfl ?_)))))
    refine ya rfl rfl (Zd (ρ' := [(0, _), (1, _), (5, _)]) ⟨rfl, rfl, rfl, trivial⟩ ?_)
    refine Zae ?_
    refine ⟨m - 1, [(0, _), (1, _), (5, _)], [], by omega, ⟨rfl, rfl, rfl, trivial⟩, trivial, i + 1, by omega, hle2, (by first | rfl | simp), (by first | rfl | (simp only [List.cons.injEq, Prod.mk.injEq, SV.v.injEq, Value.int.injEq, true_and, and_true]; omega) | simp), ?_⟩
    rfl
  ·
   skip
   refine Zat ?_
   refine Zp (Zp ?_)
   refine Zah ?_
   refine Zb (Zc (Za (ya rfl rfl (Zd (ρ' := [(4, _)]) ⟨rfl, trivial⟩ ?_))))
   refine Zb (Zv ?_)
   refine Zav (.tmp rfl) ?_
   exact ⟨_, rfl⟩
end Go.Proofs.Ytoajhdnfdfbmaaa
