/- Texts for a law, part 4: they walk the functions that the law reaches, and state what holds of them; without conditions beyond each theorem's own. -/
import Derived.Test.YtekkhlepbacapaaGreatDoorPartC
import Derived.Lib.LaidTab
import Derived.ChangeMaps5
import Derived.Lib.IndexLaws
namespace Go.Proofs.Ytekkhlepbacapaa
open Go Go.Eng
set_option linter.unusedSimpArgs false
set_option linter.unusedVariables false
set_option maxRecDepth 4000
def sameS (a b : List Bs) (i j : Nat) : Bool := decide (a[i]? = b[j]?)
theorem sameI_S {a b : List Bs} {n1 n2 : List Int} {f : Bs → Option Nat} (hinj : ∀ s t n, f s = some n → f t = some n → s = t) (h1l : n1.length = a.length) (h2l : n2.length = b.length)
  (h1 : ∀ (i : Nat) (s : Bs), a[i]? = some s → ∃ n : Nat, n1[i]? = some (n : Int) ∧ f s = some n) (h2 : ∀ (i : Nat) (s : Bs), b[i]? = some s → ∃ n : Nat, n2[i]? = some (n : Int) ∧ f s = some n) : sameI n1 n2 = sameS a b := by
 funext i j
 unfold sameI sameS
 refine decide_eq_decide.2 ?_
 cases ha : a[i]? with
 | none =>
  have e1 : n1[i]? = none := List.getElem?_eq_none (by rw [h1l]; exact List.getElem?_eq_none_iff.1 ha)
  cases hb : b[j]? with
  | none => rw [e1, List.getElem?_eq_none (by rw [h2l]; exact List.getElem?_eq_none_iff.1 hb)]; simp
  | some t =>
   obtain ⟨n, e2, _⟩ := h2 j t hb
   rw [e1, e2]; simp
 | some s =>
  obtain ⟨n, e1, f1⟩ := h1 i s ha
  cases hb : b[j]? with
  | none => rw [e1, List.getElem?_eq_none (by rw [h2l]; exact List.getElem?_eq_none_iff.1 hb)]; simp
  | some t =>
   obtain ⟨n', e2, f2⟩ := h2 j t hb
   rw [e1, e2]
   constructor
   ·
    intro e
    have : n = n' := by have := Option.some.inj e; omega
    subst this
    rw [hinj s t n f1 f2]
   ·
    intro e
    have : s = t := Option.some.inj e
    subst this
    rw [f1] at f2
    cases f2
    rfl
theorem steps_none' {n m : Nat} {W : List (Option Nat)} {x i k : Nat} (h : W[x]? = some none) : stepsOf n m (W.drop x) x i k = stepsOf n m (W.drop (x + 1)) (x + 1) i k := by
 obtain ⟨hlt, he⟩ := List.getElem?_eq_some_iff.1 h
 rw [List.drop_eq_getElem_cons hlt, he]; rfl
theorem steps_some' {n m : Nat} {W : List (Option Nat)} {x i k y : Nat} (h : W[x]? = some (some y)) : stepsOf n m (W.drop x) x i k = goneL i x ++ newL k y ++ sameC x y :: stepsOf n m (W.drop (x + 1)) (x + 1) (x + 1) (y + 1) := by
 obtain ⟨hlt, he⟩ := List.getElem?_eq_some_iff.1 h
 rw [List.drop_eq_getElem_cons hlt, he]; rfl
def noF : Bs → Option Nat := fun _ => none
theorem noF_ok : NumM [] noF := NumM.nil
set_option maxHeartbeats 8000000 in
theorem texts_fn (a b : List Bs) (n m : Nat) (han : a.length = n) (hbm : b.length = m) (hn : n ≤ 31) (hm : m ≤ 31) (va vb : Value) (u : View) (ha : StrS u va a) (hb : StrS u vb b) :
  FnP Tryz.prog 12 [va, vb] u fun r u' => ChS u' r (textSteps (sameS a b) n m) := by
 have ha2 := ha
 have hb2 := hb
 obtain ⟨aA, cA, rfl, hA⟩ := ha2
 obtain ⟨aB, cB, rfl, hB⟩ := hb2
 have hcnt := textSteps_counts (sameS a b) n m
 refine FnP.intro [.tmp 4] Tryz.func12 rfl rfl rfl ?_
 intro w0 D hw0
 refine Zd (Za (ya rfl rfl (Zf (ρ' := [(0, _), (1, _)]) ⟨rfl, rfl, trivial⟩ ?_)))
 refine Zc (Zd (Za (Zt rfl rfl ?_)))
 refine do_makeMap trivial rfl rfl rfl ?_
 refine ya rfl rfl (Zf (ρ' := [(0, _), (1, _), (5, _)]) ⟨rfl, rfl, rfl, trivial⟩ ?_)
 refine Zc (Zd (Za (ym rfl rfl (ym rfl rfl ?_))))
 refine rl_name 13 rfl ⟨14, 0, .inr rfl⟩ ?_
 intro b13
 refine Zt rfl rfl ?_
 refine Zam (caps := []) (ρ' := [(0, _), (1, _), (5, _)]) [13] [] trivial rfl rfl rfl Tryz.c26 rfl rfl ⟨rfl, rfl, rfl, trivial⟩ rfl rfl rfl (FnO.mono (numbers_fn b13 [] noF noF_ok (by simp) a (by omega) _ u ⟨_, _, rfl, hA⟩) ?_)
 rintro v uA l1 hleA ⟨kv1, f1, n1, rfl, hM1, hx1, hk1, hs1, hl1, hi1⟩ -
 refine ⟨⟨fun _ h => h, trivial⟩, ?_⟩
 refine ym rfl rfl (ym rfl rfl (Zt rfl rfl ?_))
 refine Zam (caps := []) (ρ' := [(0, _), (1, _), (16, _)]) [13] [] trivial rfl rfl rfl Tryz.c26 rfl rfl ⟨rfl, rfl, rfl, trivial⟩ rfl rfl rfl (FnO.mono (numbers_fn b13 kv1 f1 hM1 (by simp at hk1; omega) b (by omega) _ uA ⟨_, _, rfl, hB.mono hleA⟩) ?_)
 rintro v uB l1 hleB ⟨kv2, f2, n2, rfl, hM2, hx2, hk2, hs2, hl2, hi2⟩ -
 refine ⟨⟨fun _ h => h, trivial⟩, ?_⟩
 refine Zt rfl rfl ?_
 refine Zbl (caps := []) trivial rfl rfl Tryz.c25 rfl (FnP.mono (matching_fn n1 n2 n m (by omega) (by omega) hn hm _ _ uB (by rw [← han]; exact hs1.mono hleB) (by rw [← hbm]; exact hs2)) ?_)
 rintro v uW hle0 hw hleW
 have hsm : sameI n1 n2 = sameS a b := sameI_S hM2.inj hl1 hl2 (fun i s h => by
  obtain ⟨k, e1, e2⟩ := hi1 i s h
  exact ⟨k, e1, hx2 _ _ e2⟩) hi2
 rw [hsm] at hw
 obtain ⟨aW, cW, rfl, hW⟩ := hw
 obtain ⟨W, hWd⟩ : ∃ W, W = mat (sameS a b) n m := ⟨_, rfl⟩
 have hWl : W.length = n := by rw [hWd, mat_len]
 have hWy : ∀ (t y : Nat), W[t]? = some (some y) → y < m := fun t y h => by rw [hWd] at h; exact mat_lt h
 rw [← hWd] at hW
 refine ya rfl rfl (Zf (ρ' := [(0, _), (1, _), (6, _)]) ⟨rfl, rfl, rfl, trivial⟩ ?_)
 refine Zc (Zd (Za ?_))
 refine rl_nilW 600 51 3 rfl rfl ?_
 refine Zt rfl rfl ?_
 refine Zaw trivial Tryz.z43 rfl rfl rfl ?_
 refine Zf (ρ' := [(0, _), (1, _), (6, _), (7, _)]) ⟨rfl, rfl, rfl, rfl, trivial⟩ ?_
 refine Zc (Zd (Za (Zt rfl rfl ?_)))
 refine Zaw trivial Tryz.z3 rfl rfl rfl ?_
 refine Zt rfl rfl ?_
 refine Zaw trivial Tryz.z3 rfl rfl rfl ?_
 refine Zt rfl rfl ?_
 refine Zai trivial rfl Tryz.k3 rfl rfl rfl (vs := [_]) rfl rfl (by first | rfl | assumption | simp [Value.oneCell', str]) (Nat.le_of_ble_eq_true rfl) rfl ?_
 refine Zt rfl rfl ?_
 refine Zai trivial rfl Tryz.k3 rfl rfl rfl (vs := [_]) rfl rfl (by first | rfl | assumption | simp [Value.oneCell', str]) (Nat.le_of_ble_eq_true rfl) rfl ?_
 refine Zf (ρ' := [(0, _), (1, _), (6, _), (7, _), (8, _), (9, _)]) ⟨rfl, rfl, rfl, rfl, rfl, rfl, trivial⟩ ?_
 refine Zc (Zd (Za ?_))
 refine rl_name 8 rfl ⟨8, _, .inl rfl⟩ ?_
 intro b8
 refine rl_name 7 rfl ⟨7, _, .inl rfl⟩ ?_
 intro b7
 refine rl_name 9 rfl ⟨9, _, .inl rfl⟩ ?_
 intro b9
 refine Zg (y_makeFunc rfl rfl rfl) rfl (ya rfl rfl (Zf (ρ' := [(0, _), (1, _), (6, _), (7, _), (8, _), (9, _), (10, _)]) ⟨rfl, rfl, rfl, rfl, rfl, rfl, rfl, trivial⟩ ?_))
 refine Zc (Zd (Zd (Za (ym rfl rfl (Zg (Zah rfl rfl Tryz.s64 rfl) rfl (ym rfl rfl (Zf (ρ' := [(0, _), (1, _), (7, _), (8, _), (9, _), (10, _), (22, _), (23, _), (24, _)]) ⟨rfl, rfl, rfl, rfl, rfl, rfl, rfl, rfl, rfl, trivial⟩ ?_)))))))
 refine Zc (Zv ?_)
 refine Zas (fun m_0 ρ σ u' => ∃ x : Nat, x + m_0 = n ∧ VLe uW u' ∧ ∃ (L : List Chg) (i0 k0 : Nat) (ac : Option Addr) (cc : Nat), σ = [(7, (some b7, .box [.slice ac L.length cc])), (8, (some b8, .box [.int .i64 (i0 : Nat)])), (9, (some b9, .box [.int .i64 (k0 : Nat)])), (600, (none, .rwv (.slice ac L.length cc) 51 3 L.length (chgsC L)))] ∧ ρ = [(0, .v (.slice aA a.length cA)), (1, .v (.slice aB b.length cB)), (7, .p 7 0), (8, .p 8 0), (9, .p 9 0), (10, .v (.func (.func 27) #[] #[.pointer (some ⟨b8, 0, none⟩), .pointer (some ⟨b7, 0, none⟩), .pointer (some ⟨b9, 0, none⟩)])), (22, .v (.slice aW n cW)), (23, .v (.int .i64 n)), (24, .v (.int .i64 x))] ∧ (i0 ≤ n ∧ k0 ≤ m ∧ textSteps (sameS a b) n m = L ++ stepsOf n m (W.drop x) x i0 k0)) (n) ?_ ?_
 ·
  refine ⟨[(0, _), (1, _), (7, _), (8, _), (9, _), (10, _), (22, _), (23, _), (24, _)], [(7, _), (8, _), (9, _), (600, _)], ⟨rfl, rfl, rfl, rfl, rfl, rfl, rfl, rfl, rfl, trivial⟩, ⟨rfl, rfl, rfl, rfl, trivial⟩, 0, by omega, VLe.refl _, [], 0, 0, _, _, (by first | rfl | simp), (by first | rfl | (simp only [List.cons.injEq, Prod.mk.injEq, SV.v.injEq, Value.int.injEq, true_and, and_true]; omega) | simp), ?_⟩
  exact ⟨by omega, by omega, by rw [hWd]; rfl⟩
 ·
  rintro mx ρ σ u' ⟨x, hi7, hle7, L, i0, k0, ac, cc, rfl, rfl, ⟨hi0, hk0, hst⟩⟩
  refine Zd (Za (Zg (Zaz rfl rfl rfl) rfl (Zf (ρ' := [(0, _), (1, _), (7, _), (8, _), (9, _), (10, _), (22, _), (23, _), (24, _), (25, _)]) ⟨rfl, rfl, rfl, rfl, rfl, rfl, rfl, rfl, rfl, rfl, trivial⟩ ?_)))
  refine Zc (Zd ?_)
  refine Zr rfl (fun hb7 => ?_) (fun hb7 => ?_)
  ·
   have h7 := of_decide_eq_true hb7
   obtain ⟨o, ho⟩ : ∃ o, W[x]? = some o := ⟨_, List.getElem?_eq_getElem (by omega)⟩
   have hcut := intC_cut (l := W.map optI) (t := x) (x := optI o) (by simp [ho])
   have hWu := hW.mono hle7
   have hLl : L.length ≤ 62 := by
    have := congrArg List.length hst
    rw [List.length_append] at this
    omega
   refine Zs (Zc ?_)
   refine Zbr (fun ρ σ uc13 => ∃ (L3 : List Chg) (i2 k2 : Nat) (ac2 : Option Addr) (cc2 : Nat), VLe u' uc13 ∧ σ = [(7, (some b7, .box [.slice ac2 L3.length cc2])), (8, (some b8, .box [.int .i64 (i2 : Nat)])), (9, (some b9, .box [.int .i64 (k2 : Nat)])), (600, (none, .rwv (.slice ac2 L3.length cc2) 51 3 L3.length (chgsC L3)))] ∧ ρ = [(0, .v (.slice aA a.length cA)), (1, .v (.slice aB b.length cB)), (7, .p 7 0), (8, .p 8 0), (9, .p 9 0), (10, .v (.func (.func 27) #[] #[.pointer (some ⟨b8, 0, none⟩), .pointer (some ⟨b7, 0, none⟩), .pointer (some ⟨b9, 0, none⟩)])), (22, .v (.slice aW n cW)), (23, .v (.int .i64 n)), (24, .v (.int .i64 x))] ∧ (i2 ≤ n ∧ k2 ≤ m ∧ textSteps (sameS a b) n m = L3 ++ stepsOf n m (W.drop (x + 1)) (x + 1) i2 k2)) ?_ ?_
   ·
    refine Zv (Zd (Za (ym rfl rfl (Zg (Zad rfl Tryz.s64 rfl rfl hWu rfl (by omega)) rfl (Zg (Zac rfl Tryz.k3 rfl hWu (by omega) hcut (vs := [_]) rfl rfl rfl rfl) rfl (ya rfl rfl (ya rfl rfl (Zf (ρ' := [(0, _), (1, _), (7, _), (8, _), (9, _), (10, _), (11, _), (12, _), (22, _), (23, _), (24, _)]) ⟨rfl, rfl, rfl, rfl, rfl, rfl, rfl, rfl, rfl, rfl, rfl, trivial⟩ ?_))))))))
    refine Zc (Zd (Za (ym rfl rfl (Zg (Zbs rfl rfl rfl) rfl (Zf (ρ' := [(0, _), (1, _), (7, _), (8, _), (9, _), (10, _), (11, _), (12, _), (22, _), (23, _), (24, _), (30, _)]) ⟨rfl, rfl, rfl, rfl, rfl, rfl, rfl, rfl, rfl, rfl, rfl, rfl, trivial⟩ ?_)))))
    refine Zc ?_
    refine Zr rfl (fun hb9 => ?_) (fun hb9 => ?_)
    ·
     obtain ⟨y, rfl⟩ : ∃ y, o = some y := by
      cases o with
      | none => exact absurd (of_decide_eq_true hb9) (by decide)
      | some y => exact ⟨y, rfl⟩
     have hy := hWy x y ho
     rw [steps_some' ho] at hst
     refine Zd (Za (ym rfl rfl (ym rfl rfl (ym rfl rfl (Zt rfl rfl ?_)))))
     refine Zam (caps := [.pointer (some ⟨b8, 0, none⟩), .pointer (some ⟨b7, 0, none⟩), .pointer (some ⟨b9, 0, none⟩)]) (ρ' := [(0, _), (1, _), (7, _), (8, _), (9, _), (10, _), (11, _), (12, _), (22, _), (23, _), (24, _)]) [8, 7, 9, 600] [] trivial rfl rfl rfl Tryz.c27 rfl rfl ⟨rfl, rfl, rfl, rfl, rfl, rfl, rfl, rfl, rfl, rfl, rfl, trivial⟩ rfl rfl rfl (FnO.mono (gap_fn b8 b7 b9 i0 k0 x y L ac cc (by omega) (by omega) (by omega) (by omega) (by omega) u') ?_)
     rintro v uG l1 hleG ⟨a10, c10, rfl⟩ -
     refine ⟨⟨fun _ h => h, fun _ h => h, fun _ h => h, fun _ h => h, trivial⟩, ?_⟩
     refine Zf (ρ' := [(0, _), (1, _), (7, _), (8, _), (9, _), (10, _), (11, _), (12, _), (22, _), (23, _), (24, _)]) ⟨rfl, rfl, rfl, rfl, rfl, rfl, rfl, rfl, rfl, rfl, rfl, trivial⟩ ?_
     refine Zc (Zd ?_)
     obtain ⟨L2, hL2⟩ : ∃ L2, L2 = L ++ goneL i0 x ++ newL k0 y := ⟨_, rfl⟩
     have hL2l : L2.length ≤ 200 := by rw [hL2, List.length_append, List.length_append, goneL_len, newL_len]; omega
     rw [← hL2]
     have hst2 : textSteps (sameS a b) n m = (L2 ++ [sameC x y]) ++ stepsOf n m (W.drop (x + 1)) (x + 1) (x + 1) (y + 1) := by rw [hst, hL2]; simp
     refine Za (Zg (Zl rfl Tryz.k43 rfl rfl rfl (vs := [_]) rfl rfl rfl) rfl (ym rfl rfl (ym rfl rfl (Zg (Zav rfl Tryz.f51' Tryz.z51 (ps := [(_, _), (_, _), (_, _)]) rfl (vs := [_, _, _]) rfl) rfl ?_))))
     refine Zt rfl rfl ?_
     refine Zag trivial Tryz.s43 Tryz.z51 (ps := [(_, _)]) rfl (xs := [_, _, _]) rfl rfl rfl rfl rfl rfl rfl ?_
     refine Zt rfl rfl ?_
     refine Zbp 600 trivial rfl rfl Tryz.s43 Tryz.z51 rfl rfl rfl rfl rfl rfl (by first | rfl | assumption | simp [Value.oneCell', str]) (by omega) (by omega) rfl rfl ?_
     intro ad40 cap40
     refine Zt rfl rfl ?_
     refine Zai trivial rfl Tryz.k43 rfl rfl rfl (vs := [_]) rfl rfl (by first | rfl | assumption | simp [Value.oneCell', str]) (Nat.le_of_ble_eq_true rfl) rfl ?_
     refine Zf (ρ' := [(0, _), (1, _), (7, _), (8, _), (9, _), (10, _), (11, _), (12, _), (22, _), (23, _), (24, _)]) ⟨rfl, rfl, rfl, rfl, rfl, rfl, rfl, rfl, rfl, rfl, rfl, trivial⟩ ?_
     refine Zc (Za (ym rfl rfl (Zg (Zap rfl rfl rfl (Zn (by omega))) rfl ?_)))
     refine ym rfl rfl (Zg (Zap (r := (y : Int) + 1) rfl rfl rfl (Zn (e := (y : Int) + 1) (by omega))) rfl ?_)
     refine Zt rfl rfl ?_
     refine Zai trivial rfl Tryz.k3 rfl rfl rfl (vs := [_]) rfl rfl (by first | rfl | assumption | simp [Value.oneCell', str]) (Nat.le_of_ble_eq_true rfl) rfl ?_
     refine Zt rfl rfl ?_
     refine Zai trivial rfl Tryz.k3 rfl rfl rfl (vs := [_]) rfl rfl (by first | rfl | assumption | simp [Value.oneCell', str]) (Nat.le_of_ble_eq_true rfl) rfl ?_
     refine Zf (ρ' := [(0, _), (1, _), (7, _), (8, _), (9, _), (10, _), (22, _), (23, _), (24, _)]) ⟨rfl, rfl, rfl, rfl, rfl, rfl, rfl, rfl, rfl, trivial⟩ ?_
     refine Zaj (Zae ?_)
     first
      | (refine ⟨[(0, _), (1, _), (7, _), (8, _), (9, _), (10, _), (22, _), (23, _), (24, _)], [(7, _), (8, _), (9, _), (600, _)], ⟨rfl, rfl, rfl, rfl, rfl, rfl, rfl, rfl, rfl, trivial⟩, ⟨rfl, rfl, rfl, rfl, trivial⟩, L, i0, k0, _, _, (VLe.refl _), (by first | rfl | (rw [chgsC_app, List.length_append]; rfl)), (by first | rfl | simp), ?_⟩
         exact ⟨hi0, hk0, hst⟩)
      | (refine ⟨[(0, _), (1, _), (7, _), (8, _), (9, _), (10, _), (22, _), (23, _), (24, _)], [(7, _), (8, _), (9, _), (600, _)], ⟨rfl, rfl, rfl, rfl, rfl, rfl, rfl, rfl, rfl, trivial⟩, ⟨rfl, rfl, rfl, rfl, trivial⟩, L2 ++ [sameC x y], x + 1, y + 1, _, _, hleG, (by first | rfl | (rw [chgsC_app, List.length_append]; rfl)), (by first | rfl | simp), ?_⟩
         exact ⟨by omega, by omega, hst2⟩)
    ·
     obtain rfl : o = none := by
      cases o with
      | none => rfl
      | some y => exact absurd (Int.natCast_nonneg y) (of_decide_eq_false hb9)
     rw [steps_none' ho] at hst
     refine Zs (Zaj (Zae ?_))
     first
      | (refine ⟨[(0, _), (1, _), (7, _), (8, _), (9, _), (10, _), (22, _), (23, _), (24, _)], [(7, _), (8, _), (9, _), (600, _)], ⟨rfl, rfl, rfl, rfl, rfl, rfl, rfl, rfl, rfl, trivial⟩, ⟨rfl, rfl, rfl, rfl, trivial⟩, L, i0, k0, _, _, (VLe.refl _), (by first | rfl | (rw [chgsC_app, List.length_append]; rfl)), (by first | rfl | simp), ?_⟩
         exact ⟨hi0, hk0, hst⟩)
      | (refine ⟨[(0, _), (1, _), (7, _), (8, _), (9, _), (10, _), (22, _), (23, _), (24, _)], [(7, _), (8, _), (9, _), (600, _)], ⟨rfl, rfl, rfl, rfl, rfl, rfl, rfl, rfl, rfl, trivial⟩, ⟨rfl, rfl, rfl, rfl, trivial⟩, L2 ++ [sameC x y], x + 1, y + 1, _, _, hleG, (by first | rfl | (rw [chgsC_app, List.length_append]; rfl)), (by first | rfl | simp), ?_⟩
         exact ⟨by omega, by omega, hst2⟩)
   ·
    rintro ρ σ uc13 ⟨L3, i2, k2, ac2, cc2, hlc13, rfl, rfl, ⟨hi2', hk2', hst3⟩⟩
    refine Za (Zg (Zap rfl rfl rfl (Zn (by omega))) rfl ?_)
    refine ym rfl rfl (Zf (ρ' := [(0, _), (1, _), (7, _), (8, _), (9, _), (10, _), (22, _), (23, _), (24, _)]) ⟨rfl, rfl, rfl, rfl, rfl, rfl, rfl, rfl, rfl, trivial⟩ ?_)
    refine Zae ?_
    refine ⟨mx - 1, [(0, _), (1, _), (7, _), (8, _), (9, _), (10, _), (22, _), (23, _), (24, _)], [(7, _), (8, _), (9, _), (600, _)], by omega, ⟨rfl, rfl, rfl, rfl, rfl, rfl, rfl, rfl, rfl, trivial⟩, ⟨rfl, rfl, rfl, rfl, trivial⟩, x + 1, by omega, (hle7.trans hlc13), L3, i2, k2, _, _, (by first | rfl | simp), (by first | rfl | (simp only [List.cons.injEq, Prod.mk.injEq, SV.v.injEq, Value.int.injEq, true_and, and_true]; omega) | simp), ?_⟩
    exact ⟨hi2', hk2', hst3⟩
  ·
   have h7 := of_decide_eq_false hb7
   have hLl : L.length ≤ 62 := by
    have := congrArg List.length hst
    rw [List.length_append] at this
    omega
   rw [List.drop_of_length_le (by omega)] at hst
   refine Zao ?_
   refine Zm (Zm ?_)
   refine Zaa ?_
   refine Zc (Zd (Za (ym rfl rfl (ym rfl rfl (Zg (Zah rfl rfl Tryz.s24 rfl) rfl (ym rfl rfl (Zg (Zah rfl rfl Tryz.s24 rfl) rfl (Zt rfl rfl ?_))))))))
   refine Zam (caps := [.pointer (some ⟨b8, 0, none⟩), .pointer (some ⟨b7, 0, none⟩), .pointer (some ⟨b9, 0, none⟩)]) (ρ' := [(7, _)]) [8, 7, 9, 600] [] trivial rfl rfl rfl Tryz.c27 rfl rfl ⟨rfl, trivial⟩ rfl rfl rfl (FnO.mono (gap_fn b8 b7 b9 i0 k0 a.length b.length L ac cc (by omega) (by omega) (by omega) (by omega) (by omega) u') ?_)
   rintro v uH l1 hleH ⟨a14, c14, rfl⟩ -
   refine ⟨⟨fun _ h => h, fun _ h => h, fun _ h => h, fun _ h => h, trivial⟩, ?_⟩
   refine Zf (ρ' := [(7, _)]) ⟨rfl, trivial⟩ ?_
   refine Zc (Zd (Za (Zg (Zl rfl Tryz.k43 rfl rfl rfl (vs := [_]) rfl rfl rfl) rfl (ya rfl rfl ?_))))
   refine rl_freezeW 600 rfl ?_
   intro uF hleF hF
   refine Zf (ρ' := [(4, _)]) ⟨rfl, trivial⟩ ?_
   refine Zc (Zx (Zau (.tmp rfl) ?_))
   have he : textSteps (sameS a b) n m = L ++ goneL i0 a.length ++ newL k0 b.length := by rw [hst, han, hbm, stepsOf, List.append_assoc]
   rw [he]
   exact hF
theorem lenL_take {l : List Chg} {i : Nat} {c : Chg} (h : l[i]? = some c) : lenL (l.take (i + 1)) = lenL (l.take i) + lenC c := by
 obtain ⟨hlt, rfl⟩ := List.getElem?_eq_some_iff.1 h
 rw [List.take_succ_eq_append_getElem hlt]
 simp only [lenL, List.map_append, List.sum_append, List.map_cons, List.map_nil, List.sum_cons, List.sum_nil, Nat.add_zero]
theorem lenC_le (c : Chg) : lenC c ≤ 2 := by
 unfold lenC
 split
 ·
  omega
 ·
  split <;> omega
theorem lenL_le (l : List Chg) : lenL l ≤ 2 * l.length := by
 induction l with
 | nil => simp [lenL]
 | cons c l ih =>
  have := lenC_le c
  simp only [lenL, List.map_cons, List.sum_cons, List.length_cons] at ih ⊢
  omega
theorem patchL_take {a b : List Bs} {l : List Chg} {i : Nat} {c : Chg} (h : l[i]? = some c) : patchL a b (l.take (i + 1)) = patchL a b (l.take i) ++ takeC a b c := by
 obtain ⟨hlt, rfl⟩ := List.getElem?_eq_some_iff.1 h
 rw [List.take_succ_eq_append_getElem hlt]
 simp only [patchL, List.flatMap_append, List.flatMap_cons, List.flatMap_nil, List.append_nil]
theorem takeC_len (a b : List Bs) (c : Chg) : (takeC a b c).length ≤ 1 := by
 unfold takeC
 split
 ·
  split
  ·
   cases a[c.src.toNat]? <;> simp
  ·
   simp
 ·
  split
  ·
   split
   ·
    cases b[c.dst.toNat]? <;> simp
   ·
    simp
  ·
   simp
theorem patchL_len (a b : List Bs) (l : List Chg) : (patchL a b l).length ≤ l.length := by
 induction l with
 | nil => simp [patchL]
 | cons c l ih =>
  have := takeC_len a b c
  simp only [patchL, List.flatMap_cons, List.length_append, List.length_cons] at ih ⊢
  omega
set_option maxHeartbeats 2000000 in
theorem length_fn (l : List Chg) (hl : l.length ≤ 100000) (v : Value) (u : View) (ha : ChS u v l) :
  FnP Tryz.prog 15 [v] u fun r _ => r = .int .i64 ((lenL l : Nat) : Int) := by
 obtain ⟨ad, cap, rfl, h1⟩ := ha
 refine FnP.intro [.tmp 2] Tryz.func15 rfl rfl rfl ?_
 intro w0 D hw0
 refine Zd (Za (ya rfl rfl (Zf (ρ' := [(0, _)]) ⟨rfl, trivial⟩ ?_)))
 refine Zc (Zd (Za (ya rfl rfl (Zf (ρ' := [(0, _), (3, _)]) ⟨rfl, rfl, trivial⟩ ?_))))
 refine Zc (Zd (Zd (Za (ym rfl rfl (Zg (Zah rfl rfl Tryz.s43 rfl) rfl (ym rfl rfl (Zf (ρ' := [(3, _), (6, _), (7, _), (8, _)]) ⟨rfl, rfl, rfl, rfl, trivial⟩ ?_)))))))
 refine Zc (Zv ?_)
 refine Zas (fun m_0 ρ σ u' => ∃ i : Nat, i + m_0 = l.length ∧ VLe u u' ∧ σ = [] ∧ ρ = [(3, .v (.int .i64 ((lenL (l.take i) : Nat) : Int))), (6, .v (.slice ad l.length cap)), (7, .v (.int .i64 l.length)), (8, .v (.int .i64 i))] ∧ (True)) (l.length) ?_ ?_
 ·
  refine ⟨[(3, _), (6, _), (7, _), (8, _)], [], ⟨rfl, rfl, rfl, rfl, trivial⟩, trivial, 0, by omega, VLe.refl _, (by first | rfl | simp), (by first | rfl | (simp only [List.cons.injEq, Prod.mk.injEq, SV.v.injEq, Value.int.injEq, true_and, and_true]; omega) | simp), ?_⟩
  trivial
 ·
  rintro m ρ σ u' ⟨i, hi3, hle3, rfl, rfl, hinv3⟩
  refine Zd (Za (Zg (Zaz rfl rfl rfl) rfl (Zf (ρ' := [(3, _), (6, _), (7, _), (8, _), (9, _)]) ⟨rfl, rfl, rfl, rfl, rfl, trivial⟩ ?_)))
  refine Zc (Zd ?_)
  refine Zr rfl (fun hb3 => ?_) (fun hb3 => ?_)
  ·
   have h3 := of_decide_eq_true hb3
   obtain ⟨⟨kd, sr, ds⟩, hc⟩ : ∃ c, l[i]? = some c := ⟨_, List.getElem?_eq_getElem (by omega)⟩
   have hcut := chgsC_cut hc
   have hT := lenL_take hc
   have hlb := lenL_le (l.take i)
   rw [List.length_take, Nat.min_eq_left (by omega)] at hlb
   have h1u := h1.mono hle3
   refine Zs (Zc (Zd (Zv (Zd (Za (Zg (Zad rfl Tryz.s43 rfl rfl h1u rfl (by omega)) rfl (Zg (Zac rfl Tryz.k51 rfl h1u (by omega) hcut (vs := [_, _, _]) rfl rfl rfl rfl) rfl (Zt rfl rfl ?_))))))))
   refine Zaw trivial Tryz.z51 rfl rfl rfl ?_
   refine Zt rfl rfl ?_
   refine Zai trivial rfl Tryz.k51 rfl rfl rfl (vs := [_, _, _]) rfl rfl (by first | rfl | assumption | simp [Value.oneCell', str]) (Nat.le_of_ble_eq_true rfl) rfl ?_
   refine Zf (ρ' := [(3, _), (5, _), (6, _), (7, _), (8, _)]) ⟨rfl, rfl, rfl, rfl, rfl, trivial⟩ ?_
   refine Zc (Zd (Za (Zg (Zi rfl Tryz.f51' rfl (by decide) rfl) rfl (Zg (Zl rfl Tryz.k3 rfl rfl rfl (vs := [_]) rfl rfl rfl) rfl (Zf (ρ' := [(3, _), (6, _), (7, _), (8, _), (13, _)]) ⟨rfl, rfl, rfl, rfl, rfl, trivial⟩ ?_)))))
   refine Zc (Zv ?_)
   refine Zbr (fun ρ σ uci8 => VLe u' uci8 ∧ σ = [] ∧ ρ = [(3, .v (.int .i64 ((lenL (l.take i) : Nat) : Int))), (6, .v (.slice ad l.length cap)), (7, .v (.int .i64 l.length)), (8, .v (.int .i64 i)), (13, .v (.int .i64 kd)), (14, .v (.bool (decide (kd = 2 ∨ kd = 3))))] ∧ (True)) ?_ ?_
   ·
    refine Zd (Za (Zg (Zay rfl rfl rfl) rfl (ya rfl rfl (Zf (ρ' := [(3, _), (6, _), (7, _), (8, _), (13, _), (14, _)]) ⟨rfl, rfl, rfl, rfl, rfl, rfl, trivial⟩ ?_))))
    refine Zc ?_
    refine Zr rfl (fun hb6 => ?_) (fun hb6 => ?_)
    ·
     refine Zs (Zae ?_)
     refine ⟨[(3, _), (6, _), (7, _), (8, _), (13, _), (14, _)], [], ⟨rfl, rfl, rfl, rfl, rfl, rfl, trivial⟩, trivial, (VLe.refl _), rfl, (by first | rfl | (simp only [List.cons.injEq, Prod.mk.injEq, SV.v.injEq, Value.bool.injEq, eq_self, true_and, and_true]; exact decide_eq_decide.2 (by simp only [decide_eq_true_eq, decide_eq_false_iff_not] at *; omega))), ?_⟩
     trivial
    ·
     refine Za (Zg (Zay rfl rfl rfl) rfl (ya rfl rfl (Zf (ρ' := [(3, _), (6, _), (7, _), (8, _), (13, _), (14, _)]) ⟨rfl, rfl, rfl, rfl, rfl, rfl, trivial⟩ ?_)))
     refine Zae ?_
     refine ⟨[(3, _), (6, _), (7, _), (8, _), (13, _), (14, _)], [], ⟨rfl, rfl, rfl, rfl, rfl, rfl, trivial⟩, trivial, (VLe.refl _), rfl, (by first | rfl | (simp only [List.cons.injEq, Prod.mk.injEq, SV.v.injEq, Value.bool.injEq, eq_self, true_and, and_true]; exact decide_eq_decide.2 (by simp only [decide_eq_true_eq, decide_eq_false_iff_not] at *; omega))), ?_⟩
     trivial
   ·
    rintro ρ σ uci8 ⟨hlci8, rfl, rfl, hci8⟩
    refine Zr rfl (fun hb7 => ?_) (fun hb7 => ?_)
    ·
     have hC : lenC ⟨kd, sr, ds⟩ = 1 := if_pos (of_decide_eq_true hb7)
     refine Za (ym rfl rfl (Zg (Zap rfl rfl rfl (Zn (by omega))) rfl ?_))
     refine ya rfl rfl (Zf (ρ' := [(3, _), (6, _), (7, _), (8, _)]) ⟨rfl, rfl, rfl, rfl, trivial⟩ ?_)
     refine Zaj (Zaj (Zc (Za (Zg (Zap rfl rfl rfl (Zn (by omega))) rfl ?_))))
     refine ym rfl rfl (Zf (ρ' := [(3, _), (6, _), (7, _), (8, _)]) ⟨rfl, rfl, rfl, rfl, trivial⟩ ?_)
     refine Zae ?_
     refine ⟨m - 1, [(3, _), (6, _), (7, _), (8, _)], [], by omega, ⟨rfl, rfl, rfl, rfl, trivial⟩, trivial, i + 1, by omega, (hle3.trans hlci8), (by first | rfl | simp), (by first | rfl | (simp only [List.cons.injEq, Prod.mk.injEq, SV.v.injEq, Value.int.injEq, true_and, and_true]; omega) | simp), ?_⟩
     trivial
    ·
     have hn23 := of_decide_eq_false hb7
     refine Zd (Za (Zg (Zay rfl rfl rfl) rfl (ya rfl rfl (Zf (ρ' := [(3, _), (6, _), (7, _), (8, _), (19, _)]) ⟨rfl, rfl, rfl, rfl, rfl, trivial⟩ ?_))))
     refine Zc ?_
     refine Zr rfl (fun hb9 => ?_) (fun hb9 => ?_)
     ·
      have hC : lenC ⟨kd, sr, ds⟩ = 2 := (if_neg hn23).trans (if_pos (of_decide_eq_true hb9))
      refine Za (ym rfl rfl (Zg (Zap rfl rfl rfl (Zn (by omega))) rfl ?_))
      refine ya rfl rfl (Zf (ρ' := [(3, _), (6, _), (7, _), (8, _)]) ⟨rfl, rfl, rfl, rfl, trivial⟩ ?_)
      refine Zaj (Zaj (Zc (Za (Zg (Zap rfl rfl rfl (Zn (by omega))) rfl ?_))))
      refine ym rfl rfl (Zf (ρ' := [(3, _), (6, _), (7, _), (8, _)]) ⟨rfl, rfl, rfl, rfl, trivial⟩ ?_)
      refine Zae ?_
      refine ⟨m - 1, [(3, _), (6, _), (7, _), (8, _)], [], by omega, ⟨rfl, rfl, rfl, rfl, trivial⟩, trivial, i + 1, by omega, (hle3.trans hlci8), (by first | rfl | simp), (by first | rfl | (simp only [List.cons.injEq, Prod.mk.injEq, SV.v.injEq, Value.int.injEq, true_and, and_true]; omega) | simp), ?_⟩
      trivial
     ·
      have hC : lenC ⟨kd, sr, ds⟩ = 0 := (if_neg hn23).trans (if_neg (of_decide_eq_false hb9))
      refine Zs (Zaj (Zaj (Zc (Za (Zg (Zap rfl rfl rfl (Zn (by omega))) rfl ?_)))))
      refine ym rfl rfl (Zf (ρ' := [(3, _), (6, _), (7, _), (8, _)]) ⟨rfl, rfl, rfl, rfl, trivial⟩ ?_)
      refine Zae ?_
      refine ⟨m - 1, [(3, _), (6, _), (7, _), (8, _)], [], by omega, ⟨rfl, rfl, rfl, rfl, trivial⟩, trivial, i + 1, by omega, (hle3.trans hlci8), (by first | rfl | simp), (by first | rfl | (simp only [List.cons.injEq, Prod.mk.injEq, SV.v.injEq, Value.int.injEq, true_and, and_true]; omega) | simp), ?_⟩
      trivial
  ·
   have h3 := of_decide_eq_false hb3
   refine Zao ?_
   refine Zm (Zm ?_)
   refine Zaa ?_
   refine Zc (Zd (Za (ym rfl rfl (ya rfl rfl (Zf (ρ' := [(2, _)]) ⟨rfl, trivial⟩ ?_)))))
   refine Zc (Zx (Zau (.tmp rfl) ?_))
   rw [List.take_of_length_le (by omega)]
theorem strsC_snoc (L : List Bs) (s : Bs) : strsC (L ++ [s]) = strsC L ++ [str s] := by simp [strsC]
def tkL (a : List Bs) (j : Int) : List Bs := if 0 ≤ j then (a[j.toNat]?).toList else []
set_option maxHeartbeats 2000000 in
theorem take_fn (bl : Nat) (a : List Bs) (j : Int) (L : List Bs) (ao : Option Addr) (co : Nat) (hL : L.length ≤ 100000) (v : Value) (u : View) (ha : StrS u v a) :
  FnO Tryz.prog 29 [v, .int .i64 j, .pointer (some ⟨bl, 0, none⟩)] u [(some bl, .box [.slice ao L.length co]), (none, .rwv (.slice ao L.length co) 9 1 L.length (strsC L))]
   fun r u' l' => ∃ ac cc, l' = [(some bl, .box [.slice ac (L ++ tkL a j).length cc]), (none, .rwv (.slice ac (L ++ tkL a j).length cc) 9 1 (L ++ tkL a j).length (strsC (L ++ tkL a j)))] := by
 obtain ⟨ad, cap, rfl, h1⟩ := ha
 refine FnO.intro [] Tryz.func29 rfl rfl rfl ?_
 intro w0 D hw0
 refine wc_pin 2 1000 _ 0 rfl rfl ?_
 refine Zd ?_
 refine Zbo 12 (decide (0 ≤ j ∧ j < (a.length : Int))) (ρk := [(0, _), (1, _), (2, _)]) ⟨rfl, rfl, rfl, trivial⟩ ?_ ?_
 ·
  refine Za (ym rfl rfl (Zg (Zbs rfl rfl rfl) rfl (ym rfl rfl ?_)))
  refine Zab 7 rfl (fun hg0_2 => ?_) (fun hg0_2 => ?_)
  ·
   refine Zj rfl rfl (ym rfl rfl (Zj rfl rfl (ym rfl rfl (Zj rfl rfl (Zg (Zah rfl rfl Tryz.s24 rfl) rfl (Zj rfl rfl (Zg (Zaz rfl rfl rfl) rfl ?_)))))))
   refine Zg (Zk rfl rfl rfl) rfl ?_
   exact Zal rfl ⟨rfl, rfl, rfl, trivial⟩ (by
   first
   | (refine (decide_eq_false fun h => ?_).symm; have := of_decide_eq_false hg0_2; omega)
   | (refine decide_eq_decide.2 ?_; have := of_decide_eq_true hg0_2; omega))
  ·
   iterate 4 refine Zp rfl rfl rfl rfl ?_
   refine Zg (Zo rfl rfl rfl) rfl ?_
   exact Zal rfl ⟨rfl, rfl, rfl, trivial⟩ (by
   first
   | (refine (decide_eq_false fun h => ?_).symm; have := of_decide_eq_false hg0_2; omega)
   | (refine decide_eq_decide.2 ?_; have := of_decide_eq_true hg0_2; omega))
 refine Zc ?_
 refine Zr rfl (fun hb0 => ?_) (fun hb0 => ?_)
 ·
  have h0 := of_decide_eq_true hb0
  obtain ⟨jn, rfl⟩ : ∃ jn : Nat, j = jn := ⟨j.toNat, by omega⟩
  obtain ⟨s, hs⟩ : ∃ s, a[jn]? = some s := ⟨_, List.getElem?_eq_getElem (by omega)⟩
  have hcut := strsC_cut hs
  have hT : tkL a jn = [s] := by simp [tkL, hs]
  rw [hT]
  refine Zbf Tryz.mixed rfl [] trivial ?_
  refine Zar 1 rfl (by kernel_rfl) (Zbk) (Zan rfl rfl) rfl (Zar 2 rfl (by kernel_rfl) (Zbk) (Zan rfl rfl) rfl ?_)
  refine Zar 3 rfl (by kernel_rfl) (Zbk) (Zad rfl Tryz.s24 rfl rfl h1 rfl (by omega)) rfl ?_
  refine Zar 4 rfl (by kernel_rfl) (Zbk) (Zac rfl Tryz.k9 rfl h1 (by omega) hcut (vs := [_]) rfl rfl rfl rfl) rfl ?_
  refine ra_all (is := [0, 5]) (by kernel_rfl) rfl ?_
  refine raall_cons rfl rfl ?_ ?_
  ·
   refine do_y (Zl rfl Tryz.k24 rfl rfl rfl (vs := [_]) rfl rfl rfl) rfl ?_
   refine Zbq (i := 5) rfl rfl (by kernel_rfl) ?_
   refine Zag trivial Tryz.s24 Tryz.z9 (ps := [(_, _)]) rfl (xs := [_]) rfl rfl rfl rfl rfl rfl rfl ?_
   refine Zbq (i := 6) rfl rfl (by kernel_rfl) ?_
   refine Zbp 1001 trivial rfl rfl Tryz.s24 Tryz.z9 rfl rfl rfl rfl rfl rfl (by first | rfl | assumption | simp [Value.oneCell', str]) (by omega) (by omega) rfl rfl ?_
   intro ad19 cap19
   refine Zbq (i := 7) rfl rfl (by kernel_rfl) ?_
   refine Zai trivial rfl Tryz.k24 rfl rfl rfl (vs := [_]) rfl rfl (by first | rfl | assumption | simp [Value.oneCell', str]) (Nat.le_of_ble_eq_true rfl) rfl ?_
   refine Zbm (by kernel_rfl) (ρ' := []) trivial ?_
   refine finO0n [1000, 1001]  rfl rfl ?_
   first
   | exact ⟨_, _, rfl⟩
   | exact ⟨ad19, cap19, by rw [strsC_snoc, List.length_append]; rfl⟩
  refine raall_cons rfl rfl ?_ ?_
  ·
   refine Zag trivial Tryz.s24 Tryz.z9 (ps := [(_, _)]) rfl (xs := [_]) rfl rfl rfl rfl rfl rfl rfl ?_
   refine Zbq (i := 0) rfl rfl (by kernel_rfl) ?_
   refine do_y (Zl rfl Tryz.k24 rfl rfl rfl (vs := [_]) rfl rfl rfl) rfl ?_
   refine Zbq (i := 6) rfl rfl (by kernel_rfl) ?_
   refine Zbp 1001 trivial rfl rfl Tryz.s24 Tryz.z9 rfl rfl rfl rfl rfl rfl (by first | rfl | assumption | simp [Value.oneCell', str]) (by omega) (by omega) rfl rfl ?_
   intro ad19 cap19
   refine Zbq (i := 7) rfl rfl (by kernel_rfl) ?_
   refine Zai trivial rfl Tryz.k24 rfl rfl rfl (vs := [_]) rfl rfl (by first | rfl | assumption | simp [Value.oneCell', str]) (Nat.le_of_ble_eq_true rfl) rfl ?_
   refine Zbm (by kernel_rfl) (ρ' := []) trivial ?_
   refine finO0n [1000, 1001]  rfl rfl ?_
   first
   | exact ⟨_, _, rfl⟩
   | exact ⟨ad19, cap19, by rw [strsC_snoc, List.length_append]; rfl⟩
  exact raall_nil
 ·
  have h0 := of_decide_eq_false hb0
  have hT : tkL a j = [] := by
   unfold tkL
   split
   ·
    rw [List.getElem?_eq_none (by omega)]; rfl
   ·
    rfl
  rw [hT, List.append_nil]
  refine Zs ?_
  refine finO0n [1000, 1001]  rfl rfl ?_
  first
  | exact ⟨_, _, rfl⟩
  | exact ⟨ad19, cap19, by rw [strsC_snoc, List.length_append]; rfl⟩
theorem takeC_1 (a b : List Bs) (kd s d : Int) (h : kd = 1) : takeC a b ⟨kd, s, d⟩ = tkL a s := by
 subst h
 simp [takeC, tkL]
theorem takeC_34 (a b : List Bs) (kd s d : Int) (h1 : ¬ kd = 1) (h : kd = 3 ∨ kd = 4) : takeC a b ⟨kd, s, d⟩ = tkL b d := by
 unfold takeC tkL
 rw [if_neg h1, if_pos h]
theorem takeC_0 (a b : List Bs) (kd s d : Int) (h1 : ¬ kd = 1) (h : ¬ (kd = 3 ∨ kd = 4)) : takeC a b ⟨kd, s, d⟩ = [] := by
 unfold takeC
 rw [if_neg h1, if_neg h]
set_option maxHeartbeats 4000000 in
theorem patch_fn (a b : List Bs) (l : List Chg) (hl : l.length ≤ 10000) (va vb v : Value) (u : View) (ha : StrS u va a) (hb : StrS u vb b) (hv : ChS u v l) :
  FnP Tryz.prog 16 [va, vb, v] u fun r u' => StrS u' r (patchL a b l) := by
 have ha2 := ha
 have hb2 := hb
 obtain ⟨aA, cA, rfl, hA⟩ := ha2
 obtain ⟨aB, cB, rfl, hB⟩ := hb2
 obtain ⟨ad, cap, rfl, h1⟩ := hv
 refine FnP.intro [.tmp 6] Tryz.func16 rfl rfl rfl ?_
 intro w0 D hw0
 refine Zd (Za (ya rfl rfl (Zf (ρ' := [(0, _), (1, _), (2, _)]) ⟨rfl, rfl, rfl, trivial⟩ ?_)))
 refine Zc (Zd (Za ?_))
 refine rl_nilW 601 9 1 rfl rfl ?_
 refine Zt rfl rfl ?_
 refine Zaw trivial Tryz.z24 rfl rfl rfl ?_
 refine Zf (ρ' := [(0, _), (1, _), (2, _), (7, _)]) ⟨rfl, rfl, rfl, rfl, trivial⟩ ?_
 refine Zc (Zd (Za ?_))
 refine rl_name 7 rfl ⟨7, _, .inl rfl⟩ ?_
 intro b7
 refine Zg (y_makeFunc rfl rfl rfl) rfl (ya rfl rfl (Zf (ρ' := [(0, _), (1, _), (2, _), (7, _), (8, _)]) ⟨rfl, rfl, rfl, rfl, rfl, trivial⟩ ?_))
 refine Zc (Zd (Zd (Za (ym rfl rfl (Zg (Zah rfl rfl Tryz.s43 rfl) rfl (ym rfl rfl (Zf (ρ' := [(0, _), (1, _), (7, _), (8, _), (12, _), (13, _), (14, _)]) ⟨rfl, rfl, rfl, rfl, rfl, rfl, rfl, trivial⟩ ?_)))))))
 refine Zc (Zv ?_)
 refine Zas (fun m_0 ρ σ u' => ∃ i : Nat, i + m_0 = l.length ∧ VLe u u' ∧ ∃ (ac : Option Addr) (cc : Nat), σ = [(7, (some b7, .box [.slice ac (patchL a b (l.take i)).length cc])), (601, (none, .rwv (.slice ac (patchL a b (l.take i)).length cc) 9 1 (patchL a b (l.take i)).length (strsC (patchL a b (l.take i)))))] ∧ ρ = [(0, .v (.slice aA a.length cA)), (1, .v (.slice aB b.length cB)), (7, .p 7 0), (8, .v (.func (.func 29) #[] #[.pointer (some ⟨b7, 0, none⟩)])), (12, .v (.slice ad l.length cap)), (13, .v (.int .i64 l.length)), (14, .v (.int .i64 i))] ∧ (True)) (l.length) ?_ ?_
 ·
  refine ⟨[(0, _), (1, _), (7, _), (8, _), (12, _), (13, _), (14, _)], [(7, _), (601, _)], ⟨rfl, rfl, rfl, rfl, rfl, rfl, rfl, trivial⟩, ⟨rfl, rfl, trivial⟩, 0, by omega, VLe.refl _, _, _, (by first | rfl | simp), (by first | rfl | (simp only [List.cons.injEq, Prod.mk.injEq, SV.v.injEq, Value.int.injEq, true_and, and_true]; omega) | simp), ?_⟩
  trivial
 ·
  rintro m ρ σ u' ⟨i, hi4, hle4, ac, cc, rfl, rfl, hinv4⟩
  refine Zd (Za (Zg (Zaz rfl rfl rfl) rfl (Zf (ρ' := [(0, _), (1, _), (7, _), (8, _), (12, _), (13, _), (14, _), (15, _)]) ⟨rfl, rfl, rfl, rfl, rfl, rfl, rfl, rfl, trivial⟩ ?_)))
  refine Zc (Zd ?_)
  refine Zr rfl (fun hb4 => ?_) (fun hb4 => ?_)
  ·
   have h4 := of_decide_eq_true hb4
   obtain ⟨⟨kd, sr, ds⟩, hc⟩ : ∃ c, l[i]? = some c := ⟨_, List.getElem?_eq_getElem (by omega)⟩
   have hcut := chgsC_cut hc
   have hT := patchL_take (a := a) (b := b) hc
   have hlb := patchL_len a b (l.take i)
   rw [List.length_take, Nat.min_eq_left (by omega)] at hlb
   have h1u := h1.mono hle4
   have ha3 := ha.mono hle4
   have hb3 := hb.mono hle4
   obtain ⟨L, hL⟩ : ∃ L, L = patchL a b (l.take i) := ⟨_, rfl⟩
   rw [← hL] at hlb hT ⊢
   refine Zs (Zc ?_)
   refine Zbr (fun ρ σ uc12 => ∃ (ac2 : Option Addr) (cc2 : Nat), VLe u' uc12 ∧ σ = [(7, (some b7, .box [.slice ac2 (patchL a b (l.take (i + 1))).length cc2])), (601, (none, .rwv (.slice ac2 (patchL a b (l.take (i + 1))).length cc2) 9 1 (patchL a b (l.take (i + 1))).length (strsC (patchL a b (l.take (i + 1))))))] ∧ ρ = [(0, .v (.slice aA a.length cA)), (1, .v (.slice aB b.length cB)), (7, .p 7 0), (8, .v (.func (.func 29) #[] #[.pointer (some ⟨b7, 0, none⟩)])), (12, .v (.slice ad l.length cap)), (13, .v (.int .i64 l.length)), (14, .v (.int .i64 i))] ∧ (True)) ?_ ?_
   ·
    refine Zv (Zd (Za (Zg (Zad rfl Tryz.s43 rfl rfl h1u rfl (by omega)) rfl (Zg (Zac rfl Tryz.k51 rfl h1u (by omega) hcut (vs := [_, _, _]) rfl rfl rfl rfl) rfl (Zt rfl rfl ?_)))))
    refine Zaw trivial Tryz.z51 rfl rfl rfl ?_
    refine Zt rfl rfl ?_
    refine Zai trivial rfl Tryz.k51 rfl rfl rfl (vs := [_, _, _]) rfl rfl (by first | rfl | assumption | simp [Value.oneCell', str]) (Nat.le_of_ble_eq_true rfl) rfl ?_
    refine Zf (ρ' := [(0, _), (1, _), (7, _), (8, _), (10, _), (12, _), (13, _), (14, _)]) ⟨rfl, rfl, rfl, rfl, rfl, rfl, rfl, rfl, trivial⟩ ?_
    refine Zc (Zd (Za (Zg (Zi rfl Tryz.f51' rfl (by decide) rfl) rfl (Zg (Zl rfl Tryz.k3 rfl rfl rfl (vs := [_]) rfl rfl rfl) rfl (Zf (ρ' := [(0, _), (1, _), (7, _), (8, _), (10, _), (12, _), (13, _), (14, _), (19, _)]) ⟨rfl, rfl, rfl, rfl, rfl, rfl, rfl, rfl, rfl, trivial⟩ ?_)))))
    refine Zc (Zv (Zd (Za (Zg (Zay rfl rfl rfl) rfl (ya rfl rfl (Zf (ρ' := [(0, _), (1, _), (7, _), (8, _), (10, _), (12, _), (13, _), (14, _), (19, _), (20, _)]) ⟨rfl, rfl, rfl, rfl, rfl, rfl, rfl, rfl, rfl, rfl, trivial⟩ ?_))))))
    refine Zc ?_
    refine Zr rfl (fun hb7 => ?_) (fun hb7 => ?_)
    ·
     have hC := takeC_1 a b kd sr ds (of_decide_eq_true hb7)
     rw [hC] at hT
     refine Za (ym rfl rfl (ym rfl rfl (Zg (Zi rfl Tryz.f51' rfl (by decide) rfl) rfl (Zg (Zl rfl Tryz.k3 rfl rfl rfl (vs := [_]) rfl rfl rfl) rfl (Zt rfl rfl ?_)))))
     refine Zam (caps := [.pointer (some ⟨b7, 0, none⟩)]) (ρ' := [(0, _), (1, _), (7, _), (8, _), (12, _), (13, _), (14, _)]) [7, 601] [] trivial rfl rfl rfl Tryz.c29 rfl rfl ⟨rfl, rfl, rfl, rfl, rfl, rfl, rfl, trivial⟩ rfl rfl rfl (FnO.mono (take_fn b7 a sr L ac cc (by omega) _ u' ha3) ?_)
     rintro v uT l1 hleT ⟨a8, c8, rfl⟩ -
     refine ⟨⟨fun _ h => h, fun _ h => h, trivial⟩, ?_⟩
     refine Zf (ρ' := [(0, _), (1, _), (7, _), (8, _), (12, _), (13, _), (14, _)]) ⟨rfl, rfl, rfl, rfl, rfl, rfl, rfl, trivial⟩ ?_
     refine Zaj (Zaj (Zae ?_))
     refine ⟨[(0, _), (1, _), (7, _), (8, _), (12, _), (13, _), (14, _)], [(7, _), (601, _)], ⟨rfl, rfl, rfl, rfl, rfl, rfl, rfl, trivial⟩, ⟨rfl, rfl, trivial⟩, _, _, (by first | exact hleT | exact hlci11.trans hleS | exact hlci11), (by rw [hT]), (by first | rfl | simp), ?_⟩
     trivial
    ·
     have hn1 := of_decide_eq_false hb7
     refine Zbr (fun ρ σ uci11 => VLe u' uci11 ∧ σ = [(7, (some b7, .box [.slice ac L.length cc])), (10, (none, .box [.int .i64 kd, .int .i64 sr, .int .i64 ds])), (601, (none, .rwv (.slice ac L.length cc) 9 1 L.length (strsC L)))] ∧ ρ = [(0, .v (.slice aA a.length cA)), (1, .v (.slice aB b.length cB)), (7, .p 7 0), (8, .v (.func (.func 29) #[] #[.pointer (some ⟨b7, 0, none⟩)])), (10, .p 10 0), (12, .v (.slice ad l.length cap)), (13, .v (.int .i64 l.length)), (14, .v (.int .i64 i)), (27, .v (.bool (decide (kd = 3 ∨ kd = 4))))] ∧ (True)) ?_ ?_
     ·
      refine Zd (Za (Zg (Zay rfl rfl rfl) rfl (ya rfl rfl (Zf (ρ' := [(0, _), (1, _), (7, _), (8, _), (10, _), (12, _), (13, _), (14, _), (19, _), (27, _)]) ⟨rfl, rfl, rfl, rfl, rfl, rfl, rfl, rfl, rfl, rfl, trivial⟩ ?_))))
      refine Zc ?_
      refine Zr rfl (fun hb9 => ?_) (fun hb9 => ?_)
      ·
       refine Zs (Zae ?_)
       refine ⟨[(0, _), (1, _), (7, _), (8, _), (10, _), (12, _), (13, _), (14, _), (27, _)], [(7, _), (10, _), (601, _)], ⟨rfl, rfl, rfl, rfl, rfl, rfl, rfl, rfl, rfl, trivial⟩, ⟨rfl, rfl, rfl, trivial⟩, (VLe.refl _), rfl, (by first | rfl | (simp only [List.cons.injEq, Prod.mk.injEq, SV.v.injEq, Value.bool.injEq, eq_self, true_and, and_true]; exact decide_eq_decide.2 (by simp only [decide_eq_true_eq, decide_eq_false_iff_not] at *; omega))), ?_⟩
       trivial
      ·
       refine Za (Zg (Zay rfl rfl rfl) rfl (ya rfl rfl (Zf (ρ' := [(0, _), (1, _), (7, _), (8, _), (10, _), (12, _), (13, _), (14, _), (27, _)]) ⟨rfl, rfl, rfl, rfl, rfl, rfl, rfl, rfl, rfl, trivial⟩ ?_)))
       refine Zae ?_
       refine ⟨[(0, _), (1, _), (7, _), (8, _), (10, _), (12, _), (13, _), (14, _), (27, _)], [(7, _), (10, _), (601, _)], ⟨rfl, rfl, rfl, rfl, rfl, rfl, rfl, rfl, rfl, trivial⟩, ⟨rfl, rfl, rfl, trivial⟩, (VLe.refl _), rfl, (by first | rfl | (simp only [List.cons.injEq, Prod.mk.injEq, SV.v.injEq, Value.bool.injEq, eq_self, true_and, and_true]; exact decide_eq_decide.2 (by simp only [decide_eq_true_eq, decide_eq_false_iff_not] at *; omega))), ?_⟩
       trivial
     ·
      rintro ρ σ uci11 ⟨hlci11, rfl, rfl, hci11⟩
      refine Zr rfl (fun hb10 => ?_) (fun hb10 => ?_)
      ·
       rw [takeC_34 a b kd sr ds hn1 (of_decide_eq_true hb10)] at hT
       refine Za (ym rfl rfl (ym rfl rfl (Zg (Zi rfl Tryz.f51' rfl (by decide) rfl) rfl (Zg (Zl rfl Tryz.k3 rfl rfl rfl (vs := [_]) rfl rfl rfl) rfl (Zt rfl rfl ?_)))))
       refine Zam (caps := [.pointer (some ⟨b7, 0, none⟩)]) (ρ' := [(0, _), (1, _), (7, _), (8, _), (12, _), (13, _), (14, _)]) [7, 601] [] trivial rfl rfl rfl Tryz.c29 rfl rfl ⟨rfl, rfl, rfl, rfl, rfl, rfl, rfl, trivial⟩ rfl rfl rfl (FnO.mono (take_fn b7 b ds L ac cc (by omega) _ uci11 (hb3.mono hlci11)) ?_)
       rintro v uS l1 hleS ⟨a9, c9, rfl⟩ -
       refine ⟨⟨fun _ h => h, fun _ h => h, trivial⟩, ?_⟩
       refine Zf (ρ' := [(0, _), (1, _), (7, _), (8, _), (12, _), (13, _), (14, _)]) ⟨rfl, rfl, rfl, rfl, rfl, rfl, rfl, trivial⟩ ?_
       refine Zaj (Zaj (Zae ?_))
       refine ⟨[(0, _), (1, _), (7, _), (8, _), (12, _), (13, _), (14, _)], [(7, _), (601, _)], ⟨rfl, rfl, rfl, rfl, rfl, rfl, rfl, trivial⟩, ⟨rfl, rfl, trivial⟩, _, _, (by first | exact hleT | exact hlci11.trans hleS | exact hlci11), (by rw [hT]), (by first | rfl | simp), ?_⟩
       trivial
      ·
       rw [takeC_0 a b kd sr ds hn1 (of_decide_eq_false hb10), List.append_nil] at hT
       refine Zs (Zaj (Zaj (Zae ?_)))
       refine ⟨[(0, _), (1, _), (7, _), (8, _), (12, _), (13, _), (14, _)], [(7, _), (601, _)], ⟨rfl, rfl, rfl, rfl, rfl, rfl, rfl, trivial⟩, ⟨rfl, rfl, trivial⟩, _, _, (by first | exact hleT | exact hlci11.trans hleS | exact hlci11), (by rw [hT]), (by first | rfl | simp), ?_⟩
       trivial
   ·
    rintro ρ σ uc12 ⟨ac2, cc2, hlc12, rfl, rfl, hc12⟩
    refine Za (Zg (Zap rfl rfl rfl (Zn (by omega))) rfl ?_)
    refine ym rfl rfl (Zf (ρ' := [(0, _), (1, _), (7, _), (8, _), (12, _), (13, _), (14, _)]) ⟨rfl, rfl, rfl, rfl, rfl, rfl, rfl, trivial⟩ ?_)
    refine Zae ?_
    refine ⟨m - 1, [(0, _), (1, _), (7, _), (8, _), (12, _), (13, _), (14, _)], [(7, _), (601, _)], by omega, ⟨rfl, rfl, rfl, rfl, rfl, rfl, rfl, trivial⟩, ⟨rfl, rfl, trivial⟩, i + 1, by omega, (hle4.trans hlc12), _, _, (by first | rfl | simp), (by first | rfl | (simp only [List.cons.injEq, Prod.mk.injEq, SV.v.injEq, Value.int.injEq, true_and, and_true]; omega) | simp), ?_⟩
    trivial
  ·
   have h4 := of_decide_eq_false hb4
   rw [List.take_of_length_le (by omega)]
   refine Zao ?_
   refine Zm (Zm ?_)
   refine Zaa ?_
   refine Zc (Zd (Za (Zg (Zl rfl Tryz.k24 rfl rfl rfl (vs := [_]) rfl rfl rfl) rfl ?_)))
   refine rl_freezeW 601 rfl ?_
   intro uF hleF hF
   refine ya rfl rfl (Zf (ρ' := [(6, _)]) ⟨rfl, trivial⟩ ?_)
   refine Zc (Zx (Zau (.tmp rfl) ?_))
   exact hF
set_option maxHeartbeats 2000000 in
theorem lawTexts_fn (a b : List Bs) (ha' : a.length ≤ 140737488351232) (hb' : b.length ≤ 140737488351232) (va vb : Value) (u : View) (ha : StrS u va a) (hb : StrS u vb b) :
  FnP Tryz.prog 7 [va, vb] u fun r _ => r = .bool (decide (a = b)) := by
 obtain ⟨aA, cA, rfl, hA⟩ := ha
 obtain ⟨aB, cB, rfl, hB⟩ := hb
 refine FnP.intro [.tmp 4] Tryz.func7 rfl rfl rfl ?_
 intro w0 D hw0
 refine Zd (Za (ya rfl rfl (Zf (ρ' := [(0, _), (1, _)]) ⟨rfl, rfl, trivial⟩ ?_)))
 refine Zc (Zd (Zd (Za (ym rfl rfl (Zg (Zah rfl rfl Tryz.s24 rfl) rfl (ym rfl rfl (Zg (Zah rfl rfl Tryz.s24 rfl) rfl ?_)))))))
 refine Zg (y_neq rfl rfl rfl) rfl (Zf (ρ' := [(0, _), (1, _), (10, _)]) ⟨rfl, rfl, rfl, trivial⟩ ?_)
 refine Zc ?_
 refine Zr rfl (fun hb1 => ?_) (fun hb1 => ?_)
 ·
  have h1 := of_decide_eq_true hb1
  refine Zd (Za (ya rfl rfl (Zf (ρ' := [(4, _)]) ⟨rfl, trivial⟩ ?_)))
  refine Zc (Zx (Zh (Zau (.tmp rfl) ?_)))
  rw [decide_eq_false (fun e => h1 (by rw [e]))]
 ·
  have h1 := of_decide_eq_false hb1
  have hlen : a.length = b.length := by omega
  refine Zs (Zc (Zd (Zd (Za (ya rfl rfl (Zf (ρ' := [(0, _), (1, _), (5, _)]) ⟨rfl, rfl, rfl, trivial⟩ ?_))))))
  refine Zc (Zv ?_)
  refine Zas (fun m_0 ρ σ u' => ∃ i : Nat, i + m_0 = a.length ∧ VLe u u' ∧ σ = [] ∧ ρ = [(0, .v (.slice aA a.length cA)), (1, .v (.slice aB b.length cB)), (5, .v (.int .i64 i))] ∧ (∀ k, k < i → a[k]? = b[k]?)) (a.length) ?_ ?_
  ·
   refine ⟨[(0, _), (1, _), (5, _)], [], ⟨rfl, rfl, rfl, trivial⟩, trivial, 0, by omega, VLe.refl _, (by first | rfl | simp), (by first | rfl | (simp only [List.cons.injEq, Prod.mk.injEq, SV.v.injEq, Value.int.injEq, true_and, and_true]; omega) | simp), ?_⟩
   exact fun k hk => by omega
  ·
   rintro m ρ σ u' ⟨i, hi4, hle4, rfl, rfl, hsame⟩
   refine Zd (Zd ?_)
   refine Zbo 20 (decide (i < a.length)) (ρk := [(0, _), (1, _), (5, _)]) ⟨rfl, rfl, rfl, trivial⟩ ?_ ?_
   ·
    refine Za (ym rfl rfl (ym rfl rfl (Zg (Zah rfl rfl Tryz.s24 rfl) rfl (Zg (Zaz rfl rfl rfl) rfl (ym rfl rfl ?_)))))
    refine Zab 15 rfl (fun hg4_4 => ?_) (fun hg4_4 => ?_)
    ·
     refine Zj rfl rfl (ym rfl rfl (Zj rfl rfl (ym rfl rfl (Zj rfl rfl (Zg (Zah rfl rfl Tryz.s24 rfl) rfl (Zj rfl rfl (Zg (Zaz rfl rfl rfl) rfl ?_)))))))
     refine Zg (Zk rfl rfl rfl) rfl ?_
     exact Zal rfl ⟨rfl, rfl, rfl, trivial⟩ (by
     first
     | (refine (decide_eq_false fun h => ?_).symm; have := of_decide_eq_false hg4_4; omega)
     | (refine decide_eq_decide.2 ?_; have := of_decide_eq_true hg4_4; omega))
    ·
     iterate 4 refine Zp rfl rfl rfl rfl ?_
     refine Zg (Zo rfl rfl rfl) rfl ?_
     exact Zal rfl ⟨rfl, rfl, rfl, trivial⟩ (by
     first
     | (refine (decide_eq_false fun h => ?_).symm; have := of_decide_eq_false hg4_4; omega)
     | (refine decide_eq_decide.2 ?_; have := of_decide_eq_true hg4_4; omega))
   refine Zc ?_
   refine Zr rfl (fun hb4 => ?_) (fun hb4 => ?_)
   ·
    have h4 := of_decide_eq_true hb4
    obtain ⟨s, hs⟩ : ∃ s, a[i]? = some s := ⟨_, List.getElem?_eq_getElem (by omega)⟩
    obtain ⟨t, ht⟩ : ∃ t, b[i]? = some t := ⟨_, List.getElem?_eq_getElem (by omega)⟩
    have hcs := strsC_cut hs
    have hct := strsC_cut ht
    refine Zs (Zc (Zd (Zv (Zd ?_))))
    refine Zbf Tryz.mixed rfl [] trivial ?_
    refine Zar 0 rfl (by kernel_rfl) (Zb (Ze (Zb (Zb (Ze (Zb (Zw))))))) (Zan rfl rfl) rfl (Zar 1 rfl (by kernel_rfl) (Zb (Ze (Zb (Zb (Ze (Zb (Zw))))))) (Zan rfl rfl) rfl ?_)
    refine Zar 2 rfl (by kernel_rfl) (Zb (Ze (Zb (Zb (Ze (Zb (Zw))))))) (Zad rfl Tryz.s24 rfl rfl (hA.mono hle4) rfl (by omega)) rfl ?_
    refine Zar 3 rfl (by kernel_rfl) (Zb (Ze (Zb (Zb (Ze (Zb (Zw))))))) (Zac rfl Tryz.k9 rfl (hA.mono hle4) (by omega) hcs (vs := [_]) rfl rfl rfl rfl) rfl ?_
    refine Zar 4 rfl (by kernel_rfl) (Zb (Ze (Zb (Zb (Ze (Zb (Zw))))))) (Zan rfl rfl) rfl (Zar 5 rfl (by kernel_rfl) (Zb (Ze (Zb (Zb (Ze (Zb (Zw))))))) (Zan rfl rfl) rfl ?_)
    refine Zar 6 rfl (by kernel_rfl) (Zb (Ze (Zb (Zb (Ze (Zb (Zw))))))) (Zad rfl Tryz.s24 rfl rfl (hB.mono hle4) rfl (by omega)) rfl ?_
    refine Zar 7 rfl (by kernel_rfl) (Zb (Ze (Zb (Zb (Ze (Zb (Zw))))))) (Zac rfl Tryz.k9 rfl (hB.mono hle4) (by omega) hct (vs := [_]) rfl rfl rfl rfl) rfl ?_
    refine Zar 8 rfl (by kernel_rfl) (Zb (Ze (Zb (Zb (Ze (Zb (Zw))))))) (Zbj rfl rfl rfl) rfl ?_
    refine Zbm (by kernel_rfl) (ρ' := [(0, _), (1, _), (5, _), (31, _)]) ⟨rfl, rfl, rfl, rfl, trivial⟩ ?_
    refine Zc ?_
    refine Zr rfl (fun hb6 => ?_) (fun hb6 => ?_)
    ·
     have h6 := of_decide_eq_true hb6
     refine Zd (Za (ya rfl rfl (Zf (ρ' := [(4, _)]) ⟨rfl, trivial⟩ ?_)))
     refine Zc (Zx (Zq (Zh (Zh (Zq (Zh (Zau (.tmp rfl) ?_)))))))
     rw [decide_eq_false (fun e => h6 (by rw [e, ht] at hs; exact (Option.some.inj hs).symm))]
    ·
     have h6 : s = t := Decidable.of_not_not (of_decide_eq_false hb6)
     refine Zs (Zaj (Zc (Za (ym rfl rfl (Zg (Zap rfl rfl rfl (Zn (by omega))) rfl ?_)))))
     refine ya rfl rfl (Zf (ρ' := [(0, _), (1, _), (5, _)]) ⟨rfl, rfl, rfl, trivial⟩ ?_)
     refine Zae ?_
     refine ⟨m - 1, [(0, _), (1, _), (5, _)], [], by omega, ⟨rfl, rfl, rfl, trivial⟩, trivial, i + 1, by omega, hle4, (by first | rfl | simp), (by first | rfl | (simp only [List.cons.injEq, Prod.mk.injEq, SV.v.injEq, Value.int.injEq, true_and, and_true]; omega) | simp), ?_⟩
     intro k hk
     by_cases e : k = i
     ·
      rw [e, hs, ht, h6]
     ·
      exact hsame k (by omega)
   ·
    have h4 := of_decide_eq_false hb4
    refine Zao ?_
    refine Zm (Zm ?_)
    refine Zaa ?_
    refine Zc (Zd (Za (ya rfl rfl (Zf (ρ' := [(4, _)]) ⟨rfl, trivial⟩ ?_))))
    refine Zc (Zx (Zau (.tmp rfl) ?_))
    rw [decide_eq_true]
    apply List.ext_getElem?
    intro k
    by_cases hk : k < i
    ·
     exact hsame k hk
    ·
     rw [List.getElem?_eq_none (by omega), List.getElem?_eq_none (by omega)]
def BoS (u : View) (v : Value) (ms : List Bool) : Prop := IsSl u v ms.length 1 (ms.map Value.bool)
theorem BoS.mono {u u' : View} {v : Value} {ms : List Bool} (h : BoS u v ms) (hu : VLe u u') : BoS u' v ms := IsSl.mono h hu
end Go.Proofs.Ytekkhlepbacapaa
namespace Go.Eng
open Go Go.RowKit
open Go.ChangeShapes Go.WideShapes
set_option linter.unusedSimpArgs false
set_option linter.unusedVariables false
theorem laidMet_tail {P : Program} {x : String × DataW Unit} {r : List (String × DataW Unit)} {W : World} (h : laidMet P (x :: r) W) : laidMet P r W := by
 obtain ⟨ps, ⟨g, t, cs, fuel, p, q, _, _, _, _, hq, rfl⟩, hnd, hc⟩ := h
 exact ⟨q, hq, (List.nodup_append.1 hnd).2.1, fun b off hm => hc b off (List.mem_append_right _ hm)⟩
theorem wok_of {H : Type} {P : Program} {ts : List TypeId} {ds : List (DataW H)} (h : (DataW.weightsEach P ts ds).all (· ≤ reachBytes) = true) (i : Nat) {t : TypeId} {d : DataW H} (ht : ts[i]? = some t) (hd : ds[i]? = some d) : WOk P t d := by
 intro n hn
 have := List.all_eq_true.1 h n (weightsEach_mem ht hd hn)
 have h2 := of_decide_eq_true this
 unfold reachBytes at h2
 omega
def litCell : DataW Unit → Value
 | .lit (.int k n) => .int k n
 | _ => undef
def datCells : DataW Unit → Array Value
 | .agg l => (l.flatMap fun d => match d with
  | .agg m => m.map litCell
  | x => [litCell x]).toArray
 | _ => #[]
section
variable {H : Type} {enc : TypeId × Value → H} {P : Program} {w : World} {base b0 : Nat} {spare : Nat → Bool} {held : Bool} {r : Reach}
theorem slice_cells {t e : TypeId} {v : Value} (ht : P.underlying t = some (.slice e)) (hval : Value.okWide P w r b0 t v) : v.cells.toList = [v] := by
 obtain ⟨ad, n, c, rfl⟩ := okWide_slice ht hval
 rfl
theorem open_inlsV (T : DocTys P) {v : Value} {d : DataW H} {ps : List MemPlace} (hw : WOk P T.inls d) (hval : Value.okWide P w r b0 T.inls v) (hd : DataW.Trod enc P w base spare held T.inls v d ps) :
  ∃ xs : List Inl, InlS (wview w) v xs ∧ xs.length ≤ 140737488351232 := by
 obtain ⟨fuel, h⟩ := hd
 rw [slice_cells T.hinls hval] at h
 exact open_inls T _ _ _ hw h
end
end Go.Eng
namespace Go.Proofs.Ytekkhlepbacapaa
open Go Go.Eng Go.RowKit
open Go.ChangeShapes Go.WideShapes
set_option linter.unusedSimpArgs false
set_option linter.unusedVariables false
section
variable {H : Type} {enc : TypeId × Value → H} {P : Program} {w : World} {base b0 : Nat} {spare : Nat → Bool} {held : Bool} {r : Reach}
end
theorem tabU_of {W : World} (h : Lib.TabIs Tryz.prog W "internal/strconv.uint64pow10" .u64 Lib.pow10Tab) : TabU (wview W) := by
 unfold Lib.TabIs World.var? at h
 rw [gTab] at h
 unfold TabU wview
 cases hg : W.heap[3]? with
 | none => simp [hg] at h
 | some o =>
  cases o with
  | cells c T fr =>
   simp [hg] at h
   exact ⟨T, fr, by rw [h]⟩
  | _ => simp [hg] at h
set_option linter.unusedSimpArgs false
set_option linter.unusedVariables false
set_option maxRecDepth 4000
def SamV (u : View) (v : Value) (same : Nat → Nat → Bool) (n m : Nat) : Prop := ∃ ad cap rows, v = .slice ad n cap ∧ SlC u ad n cap 1 rows ∧ ∀ i, i < n → ∃ x, rows[i]? = some x ∧ IsSl u x m 1 (cF m fun k => .bool (same i k))
theorem SamV.mono {u u' : View} {v : Value} {same : Nat → Nat → Bool} {n m : Nat} (h : SamV u v same n m) (hu : VLe u u') : SamV u' v same n m :=
 let ⟨ad, cap, rows, h1, h2, h3⟩ := h; ⟨ad, cap, rows, h1, h2.mono hu, fun i hi => let ⟨x, h4, h5⟩ := h3 i hi; ⟨x, h4, h5.mono hu⟩⟩
def rowL (same : Nat → Nat → Bool) (n m i : Nat) : List Value := cF (m + 1) fun k => .int .i64 ((best same n m i k : Nat) : Int)
def BstV (u : View) (v : Value) (same : Nat → Nat → Bool) (n m : Nat) : Prop := ∃ ad cap rows, v = .slice ad (n + 1) cap ∧ SlC u ad (n + 1) cap 1 rows ∧ ∀ i, i ≤ n → ∃ x, rows[i]? = some x ∧ IsSl u x (m + 1) 1 (rowL same n m i)
theorem BstV.mono {u u' : View} {v : Value} {same : Nat → Nat → Bool} {n m : Nat} (h : BstV u v same n m) (hu : VLe u u') : BstV u' v same n m :=
 let ⟨ad, cap, rows, h1, h2, h3⟩ := h; ⟨ad, cap, rows, h1, h2.mono hu, fun i hi => let ⟨x, h4, h5⟩ := h3 i hi; ⟨x, h4, h5.mono hu⟩⟩
section
variable {same : Nat → Nat → Bool} {n m I J : Nat}
end
set_option linter.unusedSimpArgs false
set_option linter.unusedVariables false
set_option maxRecDepth 4000
theorem toList_bs (a : Bs) : (⟨a.toArray⟩ : ByteArray).toList = a := by
 rw [ByteArray.toList_eq]
theorem cell_s (a b : Bs) : cellB (some (str a)) (some (str b)) = decide (a = b) := by
 show ((⟨a.toArray⟩ : ByteArray).toList == (⟨b.toArray⟩ : ByteArray).toList) = decide (a = b)
 rw [toList_bs, toList_bs]
 by_cases h : a = b
 ·
  subst h; simp
 ·
  rw [decide_eq_false h, beq_eq_false_iff_ne]; exact h
theorem cmp_pr (a b c d : Bs) : cmpB [(0, .s), (1, .s)] [str a, str b] [str c, str d] = true ↔ (a, b) = (c, d) := by
 show (cellB (some (str a)) (some (str c)) && (cellB (some (str b)) (some (str d)) && true)) = true ↔ _
 rw [cell_s, cell_s]
 simp
theorem cmp_ci (a b c : Bs) (e : Bool) (a' b' c' : Bs) (e' : Bool) : cmpB [(0, .s), (1, .s), (2, .s), (3, .b)] [str a, str b, str c, .bool e] [str a', str b', str c', .bool e'] = true ↔ (⟨a, b, c, e⟩ : DCite) = ⟨a', b', c', e'⟩ := by
 show (cellB (some (str a)) (some (str a')) && (cellB (some (str b)) (some (str b')) && (cellB (some (str c)) (some (str c')) && ((e == e') && true)))) = true ↔ _
 rw [cell_s, cell_s, cell_s]
 simp
theorem all_get {α : Type} {xs ys : List α} (hl : xs.length = ys.length) (h : ∀ k, k < xs.length → xs[k]? = ys[k]?) : xs = ys := by
 apply List.ext_getElem?
 intro k
 by_cases hk : k < xs.length
 ·
  exact h k hk
 ·
  rw [List.getElem?_eq_none (by omega), List.getElem?_eq_none (by omega)]
theorem get_up {α : Type} {xs ys : List α} {i : Nat} (h : ∀ k, k < i → xs[k]? = ys[k]?) (hi : xs[i]? = ys[i]?) : ∀ k, k < i + 1 → xs[k]? = ys[k]? := by
 intro k hk
 by_cases e : k = i
 ·
  rw [e]; exact hi
 ·
  exact h k (by omega)
abbrev SayEq {α : Type} (x y : α) (r : Value) : Prop := ∃ b : Bool, r = .bool b ∧ (b = true ↔ x = y)
theorem SayEq.no {α : Type} {x y : α} (h : x ≠ y) : SayEq x y (.bool false) := ⟨false, rfl, ⟨fun h => (by cases h), fun e => absurd e h⟩⟩
theorem SayEq.yes {α : Type} {x y : α} (h : x = y) : SayEq x y (.bool true) := ⟨true, rfl, ⟨fun _ => h, fun _ => rfl⟩⟩
set_option maxHeartbeats 2000000 in
theorem texts_dec (va vb : Value) (xs ys : List Bs) (hx : xs.length ≤ 140737488351232) (u : View) (ha : StrS u va xs) (hb : StrS u vb ys) :
  FnP Tryz.prog 21 [va, vb] u fun v _ => SayEq xs ys v := by
 obtain ⟨ad, cap, rfl, h1⟩ := ha
 obtain ⟨ad2, cap2, rfl, h2⟩ := hb
 refine FnP.intro [.tmp 4] Tryz.func21 rfl rfl rfl ?_
 intro w0 D hw0
 refine Zd (Za (ya rfl rfl (Zf (ρ' := [(0, _), (1, _)]) ⟨rfl, rfl, trivial⟩ ?_)))
 refine Zc (Zd (Zd (Za (ym rfl rfl (Zg (Zah rfl rfl Tryz.s24 rfl) rfl (ym rfl rfl (Zg (Zah rfl rfl Tryz.s24 rfl) rfl ?_)))))))
 refine Zg (y_neq rfl rfl rfl) rfl (Zf (ρ' := [(0, _), (1, _), (10, _)]) ⟨rfl, rfl, rfl, trivial⟩ ?_)
 refine Zc ?_
 refine Zr rfl (fun hb1 => ?_) (fun hb1 => ?_)
 ·
  have hh1 := of_decide_eq_true hb1
  refine Zd (Za (ya rfl rfl (Zf (ρ' := [(4, _)]) ⟨rfl, trivial⟩ ?_)))
  refine Zc (Zx (Zh (Zau (.tmp rfl) ?_)))
  exact SayEq.no fun e => hh1 (by rw [e])
 ·
  have hl : xs.length = ys.length := by have := Decidable.of_not_not (of_decide_eq_false hb1); omega
  refine Zs (Zc (Zd (Zd (Za (ya rfl rfl (Zf (ρ' := [(0, _), (1, _), (5, _)]) ⟨rfl, rfl, rfl, trivial⟩ ?_))))))
  refine Zc (Zv ?_)
  refine Zas (fun m_0 ρ σ u' => ∃ i : Nat, i + m_0 = xs.length ∧ VLe u u' ∧ σ = [] ∧ ρ = [(0, .v (.slice ad xs.length cap)), (1, .v (.slice ad2 ys.length cap2)), (5, .v (.int .i64 i))] ∧ (u = u' ∧ ∀ k, k < i → xs[k]? = ys[k]?)) (xs.length) ?_ ?_
  ·
   refine ⟨[(0, _), (1, _), (5, _)], [], ⟨rfl, rfl, rfl, trivial⟩, trivial, 0, by omega, VLe.refl _, (by first | rfl | simp), (by first | rfl | (simp only [List.cons.injEq, Prod.mk.injEq, SV.v.injEq, Value.int.injEq, true_and, and_true]; omega) | simp), ?_⟩
   exact ⟨rfl, fun k hk => by omega⟩
  ·
   rintro m ρ σ u' ⟨i, hi4, hle4, rfl, rfl, ⟨rfl, hsm⟩⟩
   refine Zd (Zd (Za (ym rfl rfl (ym rfl rfl (Zg (Zah rfl rfl Tryz.s24 rfl) rfl (Zg (Zaz rfl rfl rfl) rfl (Zf (ρ' := [(0, _), (1, _), (5, _), (14, _)]) ⟨rfl, rfl, rfl, rfl, trivial⟩ ?_)))))))
   refine Zc ?_
   refine Zr rfl (fun hb4 => ?_) (fun hb4 => ?_)
   ·
    have h4 := of_decide_eq_true hb4
    obtain ⟨s, hs⟩ : ∃ s, xs[i]? = some s := ⟨_, List.getElem?_eq_getElem (by omega)⟩
    obtain ⟨t, ht⟩ : ∃ s, ys[i]? = some s := ⟨_, List.getElem?_eq_getElem (by omega)⟩
    have hc := cut_strsC hs
    have hd := cut_strsC ht
    refine Zs (Zc (Zd (Zv (Zd ?_))))
    refine Zbf Tryz.mixed rfl [] trivial ?_
    refine Zar 0 rfl (by kernel_rfl) (Zb (Ze (Zb (Zb (Ze (Zb (Zw))))))) (Zan rfl rfl) rfl (Zar 1 rfl (by kernel_rfl) (Zb (Ze (Zb (Zb (Ze (Zb (Zw))))))) (Zan rfl rfl) rfl ?_)
    refine Zar 2 rfl (by kernel_rfl) (Zb (Ze (Zb (Zb (Ze (Zb (Zw))))))) (Zad rfl Tryz.s24 rfl rfl h1 rfl (by omega)) rfl ?_
    refine Zar 3 rfl (by kernel_rfl) (Zb (Ze (Zb (Zb (Ze (Zb (Zw))))))) (Zac rfl Tryz.k9 rfl h1 (by omega) hc (vs := [_]) rfl rfl rfl rfl) rfl ?_
    refine Zar 4 rfl (by kernel_rfl) (Zb (Ze (Zb (Zb (Ze (Zb (Zw))))))) (Zan rfl rfl) rfl (Zar 5 rfl (by kernel_rfl) (Zb (Ze (Zb (Zb (Ze (Zb (Zw))))))) (Zan rfl rfl) rfl ?_)
    refine Zar 6 rfl (by kernel_rfl) (Zb (Ze (Zb (Zb (Ze (Zb (Zw))))))) (Zad rfl Tryz.s24 rfl rfl h2 rfl (by omega)) rfl ?_
    refine Zar 7 rfl (by kernel_rfl) (Zb (Ze (Zb (Zb (Ze (Zb (Zw))))))) (Zac rfl Tryz.k9 rfl h2 (by omega) hd (vs := [_]) rfl rfl rfl rfl) rfl ?_
    refine Zar 8 rfl (by kernel_rfl) (Zb (Ze (Zb (Zb (Ze (Zb (Zw))))))) (Zbj rfl rfl rfl) rfl ?_
    refine Zbm (by kernel_rfl) (ρ' := [(0, _), (1, _), (5, _), (25, _)]) ⟨rfl, rfl, rfl, rfl, trivial⟩ ?_
    refine Zc ?_
    refine Zr rfl (fun hb6 => ?_) (fun hb6 => ?_)
    ·
     have h6 := of_decide_eq_true hb6
     refine Zd (Za (ya rfl rfl (Zf (ρ' := [(4, _)]) ⟨rfl, trivial⟩ ?_)))
     refine Zc (Zx (Zq (Zh (Zh (Zq (Zh (Zau (.tmp rfl) ?_)))))))
     exact SayEq.no fun e => h6 (by rw [e, ht] at hs; exact (Option.some.inj hs).symm)
    ·
     have h6 : s = t := Decidable.of_not_not (of_decide_eq_false hb6)
     refine Zs (Zaj (Zc (Za (ym rfl rfl (Zg (Zap rfl rfl rfl (Zn (by omega))) rfl ?_)))))
     refine ya rfl rfl (Zf (ρ' := [(0, _), (1, _), (5, _)]) ⟨rfl, rfl, rfl, trivial⟩ ?_)
     refine Zae ?_
     refine ⟨m - 1, [(0, _), (1, _), (5, _)], [], by omega, ⟨rfl, rfl, rfl, trivial⟩, trivial, i + 1, by omega, hle4, (by first | rfl | simp), (by first | rfl | (simp only [List.cons.injEq, Prod.mk.injEq, SV.v.injEq, Value.int.injEq, true_and, and_true]; omega) | simp), ?_⟩
     exact ⟨rfl, get_up hsm (by rw [hs, ht, h6])⟩
   ·
    have h4 := of_decide_eq_false hb4
    refine Zao ?_
    refine Zm (Zm ?_)
    refine Zaa ?_
    refine Zc (Zd (Za (ya rfl rfl (Zf (ρ' := [(4, _)]) ⟨rfl, trivial⟩ ?_))))
    refine Zc (Zx (Zau (.tmp rfl) ?_))
    exact SayEq.yes (all_get hl fun k hk => hsm k (by omega))
set_option maxHeartbeats 2000000 in
theorem pairs_dec (va vb : Value) (xs ys : List (Bs × Bs)) (hx : xs.length ≤ 140737488351232) (u : View) (ha : PrS u va xs) (hb : PrS u vb ys) :
  FnP Tryz.prog 37 [va, vb] u fun v _ => SayEq xs ys v := by
 obtain ⟨ad, cap, rfl, h1⟩ := ha
 obtain ⟨ad2, cap2, rfl, h2⟩ := hb
 refine FnP.intro [.tmp 4] Tryz.func37 rfl rfl rfl ?_
 intro w0 D hw0
 refine Zd (Za (ya rfl rfl (Zf (ρ' := [(0, _), (1, _)]) ⟨rfl, rfl, trivial⟩ ?_)))
 refine Zc (Zd (Zd (Za (ym rfl rfl (Zg (Zah rfl rfl Tryz.s25 rfl) rfl (ym rfl rfl (Zg (Zah rfl rfl Tryz.s25 rfl) rfl ?_)))))))
 refine Zg (y_neq rfl rfl rfl) rfl (Zf (ρ' := [(0, _), (1, _), (10, _)]) ⟨rfl, rfl, rfl, trivial⟩ ?_)
 refine Zc ?_
 refine Zr rfl (fun hb1 => ?_) (fun hb1 => ?_)
 ·
  have hh1 := of_decide_eq_true hb1
  refine Zd (Za (ya rfl rfl (Zf (ρ' := [(4, _)]) ⟨rfl, trivial⟩ ?_)))
  refine Zc (Zx (Zh (Zau (.tmp rfl) ?_)))
  exact SayEq.no fun e => hh1 (by rw [e])
 ·
  have hl : xs.length = ys.length := by have := Decidable.of_not_not (of_decide_eq_false hb1); omega
  refine Zs (Zc (Zd (Zd (Za (ya rfl rfl (Zf (ρ' := [(0, _), (1, _), (5, _)]) ⟨rfl, rfl, rfl, trivial⟩ ?_))))))
  refine Zc (Zv ?_)
  refine Zas (fun m_0 ρ σ u' => ∃ i : Nat, i + m_0 = xs.length ∧ VLe u u' ∧ σ = [] ∧ ρ = [(0, .v (.slice ad xs.length cap)), (1, .v (.slice ad2 ys.length cap2)), (5, .v (.int .i64 i))] ∧ (u = u' ∧ ∀ k, k < i → xs[k]? = ys[k]?)) (xs.length) ?_ ?_
  ·
   refine ⟨[(0, _), (1, _), (5, _)], [], ⟨rfl, rfl, rfl, trivial⟩, trivial, 0, by omega, VLe.refl _, (by first | rfl | simp), (by first | rfl | (simp only [List.cons.injEq, Prod.mk.injEq, SV.v.injEq, Value.int.injEq, true_and, and_true]; omega) | simp), ?_⟩
   exact ⟨rfl, fun k hk => by omega⟩
  ·
   rintro m ρ σ u' ⟨i, hi4, hle4, rfl, rfl, ⟨rfl, hsm⟩⟩
   refine Zd (Zd (Za (ym rfl rfl (ym rfl rfl (Zg (Zah rfl rfl Tryz.s25 rfl) rfl (Zg (Zaz rfl rfl rfl) rfl (Zf (ρ' := [(0, _), (1, _), (5, _), (14, _)]) ⟨rfl, rfl, rfl, rfl, trivial⟩ ?_)))))))
   refine Zc ?_
   refine Zr rfl (fun hb4 => ?_) (fun hb4 => ?_)
   ·
    have h4 := of_decide_eq_true hb4
    obtain ⟨⟨s1, s2⟩, hs⟩ : ∃ s, xs[i]? = some s := ⟨_, List.getElem?_eq_getElem (by omega)⟩
    obtain ⟨⟨t1, t2⟩, ht⟩ : ∃ s, ys[i]? = some s := ⟨_, List.getElem?_eq_getElem (by omega)⟩
    have hc : cut (pairsC xs) (i * 2) 2 = [str s1, str s2] := cut_pairsC hs
    have hd : cut (pairsC ys) (i * 2) 2 = [str t1, str t2] := cut_pairsC ht
    refine Zs (Zc (Zd (Zv (Zd ?_))))
    refine Zbf Tryz.mixed rfl [] trivial ?_
    refine Zar 0 rfl (by kernel_rfl) (Zb (Ze (Zb (Zb (Ze (Zb (Zw))))))) (Zan rfl rfl) rfl (Zar 1 rfl (by kernel_rfl) (Zb (Ze (Zb (Zb (Ze (Zb (Zw))))))) (Zan rfl rfl) rfl ?_)
    refine Zar 2 rfl (by kernel_rfl) (Zb (Ze (Zb (Zb (Ze (Zb (Zw))))))) (Zad rfl Tryz.s25 rfl rfl h1 rfl (by omega)) rfl ?_
    refine Zar 3 rfl (by kernel_rfl) (Zb (Ze (Zb (Zb (Ze (Zb (Zw))))))) (Zac rfl Tryz.k40 rfl h1 (by omega) hc (vs := [_, _]) rfl rfl rfl rfl) rfl ?_
    refine Zar 4 rfl (by kernel_rfl) (Zb (Ze (Zb (Zb (Ze (Zb (Zw))))))) (Zan rfl rfl) rfl (Zar 5 rfl (by kernel_rfl) (Zb (Ze (Zb (Zb (Ze (Zb (Zw))))))) (Zan rfl rfl) rfl ?_)
    refine Zar 6 rfl (by kernel_rfl) (Zb (Ze (Zb (Zb (Ze (Zb (Zw))))))) (Zad rfl Tryz.s25 rfl rfl h2 rfl (by omega)) rfl ?_
    refine Zar 7 rfl (by kernel_rfl) (Zb (Ze (Zb (Zb (Ze (Zb (Zw))))))) (Zac rfl Tryz.k40 rfl h2 (by omega) hd (vs := [_, _]) rfl rfl rfl rfl) rfl ?_
    refine Zar 8 rfl (by kernel_rfl) (Zb (Ze (Zb (Zb (Ze (Zb (Zw))))))) (y_neq_flat Tryz.q40 rfl rfl rfl rfl rfl) rfl ?_
    refine Zbm (by kernel_rfl) (ρ' := [(0, _), (1, _), (5, _), (25, _)]) ⟨rfl, rfl, rfl, rfl, trivial⟩ ?_
    refine Zc ?_
    refine Zr rfl (fun hb6 => ?_) (fun hb6 => ?_)
    ·
     have h6 : ¬ (s1, s2) = (t1, t2) := fun e => by
      have h := (cmp_pr s1 s2 t1 t2).2 e
      have h' : (!cmpB [(0, .s), (1, .s)] [str s1, str s2] [str t1, str t2]) = true := hb6
      rw [h] at h'; cases h'
     refine Zd (Za (ya rfl rfl (Zf (ρ' := [(4, _)]) ⟨rfl, trivial⟩ ?_)))
     refine Zc (Zx (Zq (Zh (Zh (Zq (Zh (Zau (.tmp rfl) ?_)))))))
     exact SayEq.no fun e => h6 (by rw [e, ht] at hs; exact (Option.some.inj hs).symm)
    ·
     have h6 : (s1, s2) = (t1, t2) := (cmp_pr s1 s2 t1 t2).1 (by
      have h' : (!cmpB [(0, .s), (1, .s)] [str s1, str s2] [str t1, str t2]) = false := hb6
      revert h'
      cases cmpB [(0, .s), (1, .s)] [str s1, str s2] [str t1, str t2] <;> simp)
     refine Zs (Zaj (Zc (Za (ym rfl rfl (Zg (Zap rfl rfl rfl (Zn (by omega))) rfl ?_)))))
     refine ya rfl rfl (Zf (ρ' := [(0, _), (1, _), (5, _)]) ⟨rfl, rfl, rfl, trivial⟩ ?_)
     refine Zae ?_
     refine ⟨m - 1, [(0, _), (1, _), (5, _)], [], by omega, ⟨rfl, rfl, rfl, trivial⟩, trivial, i + 1, by omega, hle4, (by first | rfl | simp), (by first | rfl | (simp only [List.cons.injEq, Prod.mk.injEq, SV.v.injEq, Value.int.injEq, true_and, and_true]; omega) | simp), ?_⟩
     exact ⟨rfl, get_up hsm (by rw [hs, ht, h6])⟩
   ·
    have h4 := of_decide_eq_false hb4
    refine Zao ?_
    refine Zm (Zm ?_)
    refine Zaa ?_
    refine Zc (Zd (Za (ya rfl rfl (Zf (ρ' := [(4, _)]) ⟨rfl, trivial⟩ ?_))))
    refine Zc (Zx (Zau (.tmp rfl) ?_))
    exact SayEq.yes (all_get hl fun k hk => hsm k (by omega))
theorem attrs_dec (a b : DAttr) (vc vp vc2 vp2 : Value) (h40 : a.classes.length ≤ 140737488351232) (hp40 : a.pairs.length ≤ 140737488351232) (u : View) (h1 : StrS u vc a.classes) (h2 : PrS u vp a.pairs) (h3 : StrS u vc2 b.classes) (h4 : PrS u vp2 b.pairs) :
  FnP Tryz.prog 20 [.agg #[str a.id, vc, vp], .agg #[str b.id, vc2, vp2]] u fun v _ => SayEq a b v := by
 refine FnP.intro [.tmp 4] Tryz.func20 rfl rfl rfl ?_
 intro w0 D hw0
 refine Zd (Za (Zt rfl rfl ?_))
 refine do_box trivial rfl (cs := [_, _, _]) rfl rfl rfl rfl ?_
 refine Zt rfl rfl ?_
 refine do_box trivial rfl (cs := [_, _, _]) rfl rfl rfl rfl ?_
 refine ya rfl rfl (Zf (ρ' := [(2, _), (3, _)]) ⟨rfl, rfl, trivial⟩ ?_)
 refine Zc (Zd (Za (Zg (Zi rfl Tryz.f27' rfl (by decide) rfl) rfl (Zg (Zl rfl Tryz.k9 rfl rfl rfl (vs := [_]) rfl rfl rfl) rfl (Zg (Zi rfl Tryz.f27' rfl (by decide) rfl) rfl (Zg (Zl rfl Tryz.k9 rfl rfl rfl (vs := [_]) rfl rfl rfl) rfl (Zg (Zbn rfl rfl rfl) rfl ?_)))))))
 refine ym rfl rfl ?_
 refine Zab 10 rfl (fun hg1_5 => ?_) (fun hg1_5 => ?_)
 ·
  refine Zj rfl rfl (Zg (Zi rfl Tryz.f27' rfl (by decide) rfl) rfl (Zj rfl rfl (Zg (Zl rfl Tryz.k24 rfl rfl rfl (vs := [_]) rfl rfl rfl) rfl (Zj rfl rfl (Zg (Zi rfl Tryz.f27' rfl (by decide) rfl) rfl (Zj rfl rfl (Zg (Zl rfl Tryz.k24 rfl rfl rfl (vs := [_]) rfl rfl rfl) rfl ?_)))))))
  refine Zj rfl rfl (Zt rfl rfl ?_)
  refine Zu (caps := []) trivial rfl rfl Tryz.c21 rfl (FnP.mono (texts_dec _ _ _ _ h40 u h1 h3) ?_)
  rintro v u1 hle1 ⟨b1, rfl, hb1⟩
  refine Zg (Zk rfl rfl rfl) rfl (ym rfl rfl ?_)
  refine Zab 17 rfl (fun hg1_12 => ?_) (fun hg1_12 => ?_)
  ·
   refine Zj rfl rfl (Zg (Zi rfl Tryz.f27' rfl (by decide) rfl) rfl (Zj rfl rfl (Zg (Zl rfl Tryz.k25 rfl rfl rfl (vs := [_]) rfl rfl rfl) rfl (Zj rfl rfl (Zg (Zi rfl Tryz.f27' rfl (by decide) rfl) rfl (Zj rfl rfl (Zg (Zl rfl Tryz.k25 rfl rfl rfl (vs := [_]) rfl rfl rfl) rfl ?_)))))))
   refine Zj rfl rfl (Zt rfl rfl ?_)
   refine Zu (caps := []) trivial rfl rfl Tryz.c37 rfl (FnP.mono (pairs_dec _ _ _ _ hp40 u h2 h4) ?_)
   rintro v u1 hle1 ⟨b2, rfl, hb2⟩
   refine Zg (Zk rfl rfl rfl) rfl (ya rfl rfl (Zf (ρ' := [(4, _)]) ⟨rfl, trivial⟩ ?_))
   refine Zc (Zx (Zau (.tmp rfl) ?_))
   first
   | exact SayEq.no fun e => of_decide_eq_false hg1_5 (by rw [e])
   | exact SayEq.no fun e => by rw [hb1.2 (by rw [e])] at hg1_12; cases hg1_12
   | (refine ⟨b2, rfl, ⟨fun h => ?_, fun e => hb2.2 (by rw [e])⟩⟩
      have e1 := of_decide_eq_true hg1_5
      have e2 := hb1.1 hg1_12
      have e3 := hb2.1 h
      cases a; cases b
      simp only at e1 e2 e3
      rw [e1, e2, e3])
  ·
   iterate 5 refine Zp rfl rfl rfl rfl ?_
   refine Zg (Zo rfl rfl rfl) rfl (ya rfl rfl (Zf (ρ' := [(4, _)]) ⟨rfl, trivial⟩ ?_))
   refine Zc (Zx (Zau (.tmp rfl) ?_))
   first
   | exact SayEq.no fun e => of_decide_eq_false hg1_5 (by rw [e])
   | exact SayEq.no fun e => by rw [hb1.2 (by rw [e])] at hg1_12; cases hg1_12
   | (refine ⟨b2, rfl, ⟨fun h => ?_, fun e => hb2.2 (by rw [e])⟩⟩
      have e1 := of_decide_eq_true hg1_5
      have e2 := hb1.1 hg1_12
      have e3 := hb2.1 h
      cases a; cases b
      simp only at e1 e2 e3
      rw [e1, e2, e3])
 ·
  iterate 5 refine Zp rfl rfl rfl rfl ?_
  refine Zg (Zo rfl rfl rfl) rfl (ym rfl rfl ?_)
  iterate 5 refine Zp rfl rfl rfl rfl ?_
  refine Zg (Zo rfl rfl rfl) rfl (ya rfl rfl (Zf (ρ' := [(4, _)]) ⟨rfl, trivial⟩ ?_))
  refine Zc (Zx (Zau (.tmp rfl) ?_))
  first
  | exact SayEq.no fun e => of_decide_eq_false hg1_5 (by rw [e])
  | exact SayEq.no fun e => by rw [hb1.2 (by rw [e])] at hg1_12; cases hg1_12
  | (refine ⟨b2, rfl, ⟨fun h => ?_, fun e => hb2.2 (by rw [e])⟩⟩
     have e1 := of_decide_eq_true hg1_5
     have e2 := hb1.1 hg1_12
     have e3 := hb2.1 h
     cases a; cases b
     simp only at e1 e2 e3
     rw [e1, e2, e3])
set_option maxHeartbeats 8000000 in
theorem sameLine_dec (n : Nat) : ∀ (va vb : Value) (xs ys : List Inl), szI xs ≤ n → xs.length ≤ 140737488351232 → ∀ u : View, InlS u va xs → InlS u vb ys →
  FnP Tryz.prog 9 [va, vb] u fun v _ => SayEq xs ys v := by
 induction n using Nat.strongRecOn with
 | _ n ih =>
 intro va vb xs ys hsz hx u ha hb
 obtain ⟨cs1, ⟨ad, cap, rfl, h1⟩, hc1⟩ := ha
 obtain ⟨cs2, ⟨ad2, cap2, rfl, h2⟩, hc2⟩ := hb
 refine FnP.intro [.tmp 4] Tryz.func9 rfl rfl rfl ?_
 intro w0 D hw0
 refine Zd (Za (ya rfl rfl (Zf (ρ' := [(0, _), (1, _)]) ⟨rfl, rfl, trivial⟩ ?_)))
 refine Zc (Zd (Zd (Za (ym rfl rfl (Zg (Zah rfl rfl Tryz.s22 rfl) rfl (ym rfl rfl (Zg (Zah rfl rfl Tryz.s22 rfl) rfl ?_)))))))
 refine Zg (y_neq rfl rfl rfl) rfl (Zf (ρ' := [(0, _), (1, _), (13, _)]) ⟨rfl, rfl, rfl, trivial⟩ ?_)
 refine Zc ?_
 refine Zr rfl (fun hb1 => ?_) (fun hb1 => ?_)
 ·
  have hh1 := of_decide_eq_true hb1
  refine Zd (Za (ya rfl rfl (Zf (ρ' := [(4, _)]) ⟨rfl, trivial⟩ ?_)))
  refine Zc (Zx (Zh (Zau (.tmp rfl) ?_)))
  exact SayEq.no fun e => hh1 (by rw [e])
 ·
  have hl : xs.length = ys.length := by have := Decidable.of_not_not (of_decide_eq_false hb1); omega
  refine Zs (Zc (Zd (Zd (Za (ya rfl rfl (Zf (ρ' := [(0, _), (1, _), (5, _)]) ⟨rfl, rfl, rfl, trivial⟩ ?_))))))
  refine Zc (Zv ?_)
  refine Zas (fun m_0 ρ σ u' => ∃ i : Nat, i + m_0 = xs.length ∧ VLe u u' ∧ σ = [] ∧ ρ = [(0, .v (.slice ad xs.length cap)), (1, .v (.slice ad2 ys.length cap2)), (5, .v (.int .i64 i))] ∧ (u = u' ∧ ∀ k, k < i → xs[k]? = ys[k]?)) (xs.length) ?_ ?_
  ·
   refine ⟨[(0, _), (1, _), (5, _)], [], ⟨rfl, rfl, rfl, trivial⟩, trivial, 0, by omega, VLe.refl _, (by first | rfl | simp), (by first | rfl | (simp only [List.cons.injEq, Prod.mk.injEq, SV.v.injEq, Value.int.injEq, true_and, and_true]; omega) | simp), ?_⟩
   exact ⟨rfl, fun k hk => by omega⟩
  ·
   rintro m ρ σ u' ⟨i, hi4, hle4, rfl, rfl, ⟨rfl, hsm⟩⟩
   refine Zd (Zd (Za (ym rfl rfl (ym rfl rfl (Zg (Zah rfl rfl Tryz.s22 rfl) rfl (Zg (Zaz rfl rfl rfl) rfl (Zf (ρ' := [(0, _), (1, _), (5, _), (17, _)]) ⟨rfl, rfl, rfl, rfl, trivial⟩ ?_)))))))
   refine Zc ?_
   refine Zr rfl (fun hb4 => ?_) (fun hb4 => ?_)
   ·
    have hlt : i < xs.length := by have := of_decide_eq_true hb4; omega
    have hlt2 : i < ys.length := by omega
    obtain ⟨k, t, d, ti, a, args, cites, kids, vc, vp, va, vt, vk, hg, hcut1, s1, s2, s3, s4, s5, hok⟩ := hc1.at hlt
    obtain ⟨k', t', d', ti', a', args', cites', kids', vc', vp', va', vt', vk', hg', hcut2, s1', s2', s3', s4', s5', _⟩ := hc2.at hlt2
    obtain ⟨_, _, _, _, ⟨_, ⟨okc, _⟩, ⟨okp, _⟩⟩, ⟨oka, _⟩, ⟨okt, _⟩, okk⟩ := hok
    have oneAll := (hc1.get i _ hg).one
    rw [hcut1] at oneAll
    have oneAll2 := (hc2.get i _ hg').one
    rw [hcut2] at oneAll2
    have hkid := szI_kids hg
    obtain ⟨adt, capt, rfl, h4⟩ := s4
    obtain ⟨adt', capt', rfl, h4'⟩ := s4'
    have hxy : xs = ys → k = k' ∧ t = t' ∧ d = d' ∧ ti = ti' ∧ a = a' ∧ args = args' ∧ cites = cites' ∧ kids = kids' := fun e => by
     rw [e, hg'] at hg
     cases Option.some.inj hg
     exact ⟨rfl, rfl, rfl, rfl, rfl, rfl, rfl, rfl⟩
    refine Zs (Zc (Zd (Zv (Zd ?_))))
    refine wc_cutS [(6, .p 6 0), (7, .p 7 0)] [(6, (none, .box (inlV k t d ti a.id vc vp va (.slice adt cites.length capt) vk))), (7, (none, .box (inlV k' t' d' ti' a'.id vc' vp' va' (.slice adt' cites'.length capt') vk')))] (ρa := [(0, _), (1, _), (5, _)]) (σa := []) ⟨rfl, rfl, rfl, trivial⟩ trivial ?_ ?_
    ·
     refine Zbf Tryz.mixed rfl [] trivial ?_
     refine Zar 0 rfl (by kernel_rfl) (np_cutS) (Zan rfl rfl) rfl (Zar 1 rfl (by kernel_rfl) (np_cutS) (Zan rfl rfl) rfl ?_)
     refine Zar 2 rfl (by kernel_rfl) (np_cutS) (Zad rfl Tryz.s22 rfl rfl h1 rfl (by omega)) rfl ?_
     refine Zar 3 rfl (by kernel_rfl) (np_cutS) (Zac rfl Tryz.k49 rfl h1 (by omega) hcut1 (vs := [_, _, _, _, _, _, _, _, _, _]) rfl rfl rfl rfl) rfl ?_
     refine Zar 4 rfl (by kernel_rfl) (np_cutS) (Zan rfl rfl) rfl (Zar 5 rfl (by kernel_rfl) (np_cutS) (Zan rfl rfl) rfl ?_)
     refine Zar 6 rfl (by kernel_rfl) (np_cutS) (Zad rfl Tryz.s22 rfl rfl h2 rfl (by omega)) rfl ?_
     refine Zar 7 rfl (by kernel_rfl) (np_cutS) (Zac rfl Tryz.k49 rfl h2 (by omega) hcut2 (vs := [_, _, _, _, _, _, _, _, _, _]) rfl rfl rfl rfl) rfl ?_
     refine ra_all (is := [8, 9]) (by kernel_rfl) rfl ?_
     refine raall_cons rfl rfl ?_ ?_
     ·
      refine Zaw trivial Tryz.z49 rfl rfl rfl ?_
      refine Zbq (i := 9) rfl rfl (by kernel_rfl) ?_
      refine Zaw trivial Tryz.z49 rfl rfl rfl ?_
      refine Zbq (i := 10) rfl rfl (by kernel_rfl) ?_
      refine Zai trivial rfl Tryz.k49 rfl rfl rfl (vs := [_, _, _, _, _, _, _, _, _, _]) rfl rfl (by first | rfl | assumption | simp [Value.oneCell', str]) (Nat.le_of_ble_eq_true rfl) rfl ?_
      refine Zbq (i := 11) rfl rfl (by kernel_rfl) ?_
      refine Zai trivial rfl Tryz.k49 rfl rfl rfl (vs := [_, _, _, _, _, _, _, _, _, _]) rfl rfl (by first | rfl | assumption | simp [Value.oneCell', str]) (Nat.le_of_ble_eq_true rfl) rfl ?_
      exact cutS_endA (by kernel_rfl) ⟨rfl, rfl, rfl, rfl, rfl, trivial⟩ ⟨rfl, rfl, trivial⟩
     refine raall_cons rfl rfl ?_ ?_
     ·
      refine Zaw trivial Tryz.z49 rfl rfl rfl ?_
      refine Zbq (i := 8) rfl rfl (by kernel_rfl) ?_
      refine Zaw trivial Tryz.z49 rfl rfl rfl ?_
      refine Zbq (i := 10) rfl rfl (by kernel_rfl) ?_
      refine Zai trivial rfl Tryz.k49 rfl rfl rfl (vs := [_, _, _, _, _, _, _, _, _, _]) rfl rfl (by first | rfl | assumption | simp [Value.oneCell', str]) (Nat.le_of_ble_eq_true rfl) rfl ?_
      refine Zbq (i := 11) rfl rfl (by kernel_rfl) ?_
      refine Zai trivial rfl Tryz.k49 rfl rfl rfl (vs := [_, _, _, _, _, _, _, _, _, _]) rfl rfl (by first | rfl | assumption | simp [Value.oneCell', str]) (Nat.le_of_ble_eq_true rfl) rfl ?_
      exact cutS_endA (by kernel_rfl) ⟨rfl, rfl, rfl, rfl, rfl, trivial⟩ ⟨rfl, rfl, trivial⟩
     exact raall_nil
    refine Zc (Zd (Zd (Za (Zg (Zi rfl Tryz.f49' rfl (by decide) rfl) rfl (Zg (Zl rfl Tryz.k3 rfl rfl rfl (vs := [_]) rfl rfl rfl) rfl (Zg (Zi rfl Tryz.f49' rfl (by decide) rfl) rfl (Zg (Zl rfl Tryz.k3 rfl rfl rfl (vs := [_]) rfl rfl rfl) rfl ?_)))))))
    refine Zg (y_neq rfl rfl rfl) rfl (ym rfl rfl ?_)
    refine Zab 33 rfl (fun hg7_5 => ?_) (fun hg7_5 => ?_)
    ·
     iterate 5 refine Zp rfl rfl rfl rfl ?_
     refine Zg (Zk rfl rfl rfl) rfl (ym rfl rfl ?_)
     iterate 5 refine Zp rfl rfl rfl rfl ?_
     refine Zg (Zk rfl rfl rfl) rfl (ym rfl rfl ?_)
     iterate 5 refine Zp rfl rfl rfl rfl ?_
     refine Zg (Zk rfl rfl rfl) rfl (ym rfl rfl ?_)
     iterate 6 refine Zp rfl rfl rfl rfl ?_
     refine Zg (Zk rfl rfl rfl) rfl (ym rfl rfl ?_)
     iterate 6 refine Zp rfl rfl rfl rfl ?_
     refine Zg (Zk rfl rfl rfl) rfl (ym rfl rfl ?_)
     iterate 7 refine Zp rfl rfl rfl rfl ?_
     refine Zg (Zk rfl rfl rfl) rfl (ym rfl rfl ?_)
     iterate 6 refine Zp rfl rfl rfl rfl ?_
     refine Zg (Zk rfl rfl rfl) rfl (Zf (ρ' := [(0, _), (1, _), (5, _), (6, _), (7, _), (86, _)]) ⟨rfl, rfl, rfl, rfl, rfl, rfl, trivial⟩ ?_)
     refine Zc (Zbc rfl (rfl) (Zd (Za (ya rfl rfl (Zf (ρ' := [(4, _)]) ⟨rfl, trivial⟩ ?_)))))
     refine Zc (Zx (Zh (Zq (Zh (Zh (Zq (Zh ?_)))))))
     refine Zau (.tmp rfl) ?_
     first
     | exact SayEq.no fun e => of_decide_eq_true hg7_5 (hxy e).1
     | exact SayEq.no fun e => of_decide_eq_true hg7_12 (hxy e).2.1
     | exact SayEq.no fun e => of_decide_eq_true hg7_19 (hxy e).2.2.1
     | exact SayEq.no fun e => of_decide_eq_true hg7_26 (hxy e).2.2.2.1
     | exact SayEq.no fun e => by rw [hB1.2 (hxy e).2.2.2.2.1] at hg7_34; exact absurd hg7_34 (by decide)
     | exact SayEq.no fun e => by rw [hB2.2 (hxy e).2.2.2.2.2.1] at hg7_42; exact absurd hg7_42 (by decide)
     | exact SayEq.no fun e => of_decide_eq_true hg7_51 (by rw [(hxy e).2.2.2.2.2.2.1])
     | exact SayEq.no fun e => by rw [hB3.2 (hxy e).2.2.2.2.2.2.2] at hb7; exact absurd hb7 (by decide)
     | exact SayEq.no fun e => h12 (by rw [(hxy e).2.2.2.2.2.2.1, hw'] at hw; exact (Option.some.inj hw).symm)
     | exact SayEq.yes (all_get hl fun k hk => hsm k (by omega))
    ·
     refine Zj rfl rfl (Zg (Zi rfl Tryz.f49' rfl (by decide) rfl) rfl (Zj rfl rfl (Zg (Zl rfl Tryz.k9 rfl rfl rfl (vs := [_]) rfl rfl rfl) rfl (Zj rfl rfl (Zg (Zi rfl Tryz.f49' rfl (by decide) rfl) rfl (Zj rfl rfl (Zg (Zl rfl Tryz.k9 rfl rfl rfl (vs := [_]) rfl rfl rfl) rfl ?_)))))))
     refine Zj rfl rfl (Zg (Zbj rfl rfl rfl) rfl (Zg (Zo rfl rfl rfl) rfl (ym rfl rfl ?_)))
     refine Zab 40 rfl (fun hg7_12 => ?_) (fun hg7_12 => ?_)
     ·
      iterate 5 refine Zp rfl rfl rfl rfl ?_
      refine Zg (Zk rfl rfl rfl) rfl (ym rfl rfl ?_)
      iterate 5 refine Zp rfl rfl rfl rfl ?_
      refine Zg (Zk rfl rfl rfl) rfl (ym rfl rfl ?_)
      iterate 6 refine Zp rfl rfl rfl rfl ?_
      refine Zg (Zk rfl rfl rfl) rfl (ym rfl rfl ?_)
      iterate 6 refine Zp rfl rfl rfl rfl ?_
      refine Zg (Zk rfl rfl rfl) rfl (ym rfl rfl ?_)
      iterate 7 refine Zp rfl rfl rfl rfl ?_
      refine Zg (Zk rfl rfl rfl) rfl (ym rfl rfl ?_)
      iterate 6 refine Zp rfl rfl rfl rfl ?_
      refine Zg (Zk rfl rfl rfl) rfl (Zf (ρ' := [(0, _), (1, _), (5, _), (6, _), (7, _), (86, _)]) ⟨rfl, rfl, rfl, rfl, rfl, rfl, trivial⟩ ?_)
      refine Zc (Zbc rfl (rfl) (Zd (Za (ya rfl rfl (Zf (ρ' := [(4, _)]) ⟨rfl, trivial⟩ ?_)))))
      refine Zc (Zx (Zh (Zq (Zh (Zh (Zq (Zh ?_)))))))
      refine Zau (.tmp rfl) ?_
      first
      | exact SayEq.no fun e => of_decide_eq_true hg7_5 (hxy e).1
      | exact SayEq.no fun e => of_decide_eq_true hg7_12 (hxy e).2.1
      | exact SayEq.no fun e => of_decide_eq_true hg7_19 (hxy e).2.2.1
      | exact SayEq.no fun e => of_decide_eq_true hg7_26 (hxy e).2.2.2.1
      | exact SayEq.no fun e => by rw [hB1.2 (hxy e).2.2.2.2.1] at hg7_34; exact absurd hg7_34 (by decide)
      | exact SayEq.no fun e => by rw [hB2.2 (hxy e).2.2.2.2.2.1] at hg7_42; exact absurd hg7_42 (by decide)
      | exact SayEq.no fun e => of_decide_eq_true hg7_51 (by rw [(hxy e).2.2.2.2.2.2.1])
      | exact SayEq.no fun e => by rw [hB3.2 (hxy e).2.2.2.2.2.2.2] at hb7; exact absurd hb7 (by decide)
      | exact SayEq.no fun e => h12 (by rw [(hxy e).2.2.2.2.2.2.1, hw'] at hw; exact (Option.some.inj hw).symm)
      | exact SayEq.yes (all_get hl fun k hk => hsm k (by omega))
     ·
      refine Zj rfl rfl (Zg (Zi rfl Tryz.f49' rfl (by decide) rfl) rfl (Zj rfl rfl (Zg (Zl rfl Tryz.k9 rfl rfl rfl (vs := [_]) rfl rfl rfl) rfl (Zj rfl rfl (Zg (Zi rfl Tryz.f49' rfl (by decide) rfl) rfl (Zj rfl rfl (Zg (Zl rfl Tryz.k9 rfl rfl rfl (vs := [_]) rfl rfl rfl) rfl ?_)))))))
      refine Zj rfl rfl (Zg (Zbj rfl rfl rfl) rfl (Zg (Zo rfl rfl rfl) rfl (ym rfl rfl ?_)))
      refine Zab 47 rfl (fun hg7_19 => ?_) (fun hg7_19 => ?_)
      ·
       iterate 5 refine Zp rfl rfl rfl rfl ?_
       refine Zg (Zk rfl rfl rfl) rfl (ym rfl rfl ?_)
       iterate 6 refine Zp rfl rfl rfl rfl ?_
       refine Zg (Zk rfl rfl rfl) rfl (ym rfl rfl ?_)
       iterate 6 refine Zp rfl rfl rfl rfl ?_
       refine Zg (Zk rfl rfl rfl) rfl (ym rfl rfl ?_)
       iterate 7 refine Zp rfl rfl rfl rfl ?_
       refine Zg (Zk rfl rfl rfl) rfl (ym rfl rfl ?_)
       iterate 6 refine Zp rfl rfl rfl rfl ?_
       refine Zg (Zk rfl rfl rfl) rfl (Zf (ρ' := [(0, _), (1, _), (5, _), (6, _), (7, _), (86, _)]) ⟨rfl, rfl, rfl, rfl, rfl, rfl, trivial⟩ ?_)
       refine Zc (Zbc rfl (rfl) (Zd (Za (ya rfl rfl (Zf (ρ' := [(4, _)]) ⟨rfl, trivial⟩ ?_)))))
       refine Zc (Zx (Zh (Zq (Zh (Zh (Zq (Zh ?_)))))))
       refine Zau (.tmp rfl) ?_
       first
       | exact SayEq.no fun e => of_decide_eq_true hg7_5 (hxy e).1
       | exact SayEq.no fun e => of_decide_eq_true hg7_12 (hxy e).2.1
       | exact SayEq.no fun e => of_decide_eq_true hg7_19 (hxy e).2.2.1
       | exact SayEq.no fun e => of_decide_eq_true hg7_26 (hxy e).2.2.2.1
       | exact SayEq.no fun e => by rw [hB1.2 (hxy e).2.2.2.2.1] at hg7_34; exact absurd hg7_34 (by decide)
       | exact SayEq.no fun e => by rw [hB2.2 (hxy e).2.2.2.2.2.1] at hg7_42; exact absurd hg7_42 (by decide)
       | exact SayEq.no fun e => of_decide_eq_true hg7_51 (by rw [(hxy e).2.2.2.2.2.2.1])
       | exact SayEq.no fun e => by rw [hB3.2 (hxy e).2.2.2.2.2.2.2] at hb7; exact absurd hb7 (by decide)
       | exact SayEq.no fun e => h12 (by rw [(hxy e).2.2.2.2.2.2.1, hw'] at hw; exact (Option.some.inj hw).symm)
       | exact SayEq.yes (all_get hl fun k hk => hsm k (by omega))
      ·
       refine Zj rfl rfl (Zg (Zi rfl Tryz.f49' rfl (by decide) rfl) rfl (Zj rfl rfl (Zg (Zl rfl Tryz.k9 rfl rfl rfl (vs := [_]) rfl rfl rfl) rfl (Zj rfl rfl (Zg (Zi rfl Tryz.f49' rfl (by decide) rfl) rfl (Zj rfl rfl (Zg (Zl rfl Tryz.k9 rfl rfl rfl (vs := [_]) rfl rfl rfl) rfl ?_)))))))
       refine Zj rfl rfl (Zg (Zbj rfl rfl rfl) rfl (Zg (Zo rfl rfl rfl) rfl (ym rfl rfl ?_)))
       refine Zab 54 rfl (fun hg7_26 => ?_) (fun hg7_26 => ?_)
       ·
        iterate 6 refine Zp rfl rfl rfl rfl ?_
        refine Zg (Zk rfl rfl rfl) rfl (ym rfl rfl ?_)
        iterate 6 refine Zp rfl rfl rfl rfl ?_
        refine Zg (Zk rfl rfl rfl) rfl (ym rfl rfl ?_)
        iterate 7 refine Zp rfl rfl rfl rfl ?_
        refine Zg (Zk rfl rfl rfl) rfl (ym rfl rfl ?_)
        iterate 6 refine Zp rfl rfl rfl rfl ?_
        refine Zg (Zk rfl rfl rfl) rfl (Zf (ρ' := [(0, _), (1, _), (5, _), (6, _), (7, _), (86, _)]) ⟨rfl, rfl, rfl, rfl, rfl, rfl, trivial⟩ ?_)
        refine Zc (Zbc rfl (rfl) (Zd (Za (ya rfl rfl (Zf (ρ' := [(4, _)]) ⟨rfl, trivial⟩ ?_)))))
        refine Zc (Zx (Zh (Zq (Zh (Zh (Zq (Zh ?_)))))))
        refine Zau (.tmp rfl) ?_
        first
        | exact SayEq.no fun e => of_decide_eq_true hg7_5 (hxy e).1
        | exact SayEq.no fun e => of_decide_eq_true hg7_12 (hxy e).2.1
        | exact SayEq.no fun e => of_decide_eq_true hg7_19 (hxy e).2.2.1
        | exact SayEq.no fun e => of_decide_eq_true hg7_26 (hxy e).2.2.2.1
        | exact SayEq.no fun e => by rw [hB1.2 (hxy e).2.2.2.2.1] at hg7_34; exact absurd hg7_34 (by decide)
        | exact SayEq.no fun e => by rw [hB2.2 (hxy e).2.2.2.2.2.1] at hg7_42; exact absurd hg7_42 (by decide)
        | exact SayEq.no fun e => of_decide_eq_true hg7_51 (by rw [(hxy e).2.2.2.2.2.2.1])
        | exact SayEq.no fun e => by rw [hB3.2 (hxy e).2.2.2.2.2.2.2] at hb7; exact absurd hb7 (by decide)
        | exact SayEq.no fun e => h12 (by rw [(hxy e).2.2.2.2.2.2.1, hw'] at hw; exact (Option.some.inj hw).symm)
        | exact SayEq.yes (all_get hl fun k hk => hsm k (by omega))
       ·
        refine Zj rfl rfl (Zg (Zi rfl Tryz.f49' rfl (by decide) rfl) rfl (Zj rfl rfl (Zg (Zl rfl Tryz.k27 rfl rfl rfl (vs := [_, _, _]) rfl rfl rfl) rfl (Zj rfl rfl (Zg (Zi rfl Tryz.f49' rfl (by decide) rfl) rfl (Zj rfl rfl (Zg (Zl rfl Tryz.k27 rfl rfl rfl (vs := [_, _, _]) rfl rfl rfl) rfl ?_)))))))
        refine Zj rfl rfl (Zt rfl rfl ?_)
        refine Zu (caps := []) trivial rfl rfl Tryz.c20 rfl (FnP.mono (attrs_dec a a' _ _ _ _ okc okp u s1 s2 s1' s2') ?_)
        rintro v u1 hle1 ⟨b1, rfl, hB1⟩
        refine Zj rfl rfl (Zg (Zbu rfl rfl) rfl (Zg (Zo rfl rfl rfl) rfl (ym rfl rfl ?_)))
        refine Zab 62 rfl (fun hg7_34 => ?_) (fun hg7_34 => ?_)
        ·
         iterate 6 refine Zp rfl rfl rfl rfl ?_
         refine Zg (Zk rfl rfl rfl) rfl (ym rfl rfl ?_)
         iterate 7 refine Zp rfl rfl rfl rfl ?_
         refine Zg (Zk rfl rfl rfl) rfl (ym rfl rfl ?_)
         iterate 6 refine Zp rfl rfl rfl rfl ?_
         refine Zg (Zk rfl rfl rfl) rfl (Zf (ρ' := [(0, _), (1, _), (5, _), (6, _), (7, _), (86, _)]) ⟨rfl, rfl, rfl, rfl, rfl, rfl, trivial⟩ ?_)
         refine Zc (Zbc rfl (rfl) (Zd (Za (ya rfl rfl (Zf (ρ' := [(4, _)]) ⟨rfl, trivial⟩ ?_)))))
         refine Zc (Zx (Zh (Zq (Zh (Zh (Zq (Zh ?_)))))))
         refine Zau (.tmp rfl) ?_
         first
         | exact SayEq.no fun e => of_decide_eq_true hg7_5 (hxy e).1
         | exact SayEq.no fun e => of_decide_eq_true hg7_12 (hxy e).2.1
         | exact SayEq.no fun e => of_decide_eq_true hg7_19 (hxy e).2.2.1
         | exact SayEq.no fun e => of_decide_eq_true hg7_26 (hxy e).2.2.2.1
         | exact SayEq.no fun e => by rw [hB1.2 (hxy e).2.2.2.2.1] at hg7_34; exact absurd hg7_34 (by decide)
         | exact SayEq.no fun e => by rw [hB2.2 (hxy e).2.2.2.2.2.1] at hg7_42; exact absurd hg7_42 (by decide)
         | exact SayEq.no fun e => of_decide_eq_true hg7_51 (by rw [(hxy e).2.2.2.2.2.2.1])
         | exact SayEq.no fun e => by rw [hB3.2 (hxy e).2.2.2.2.2.2.2] at hb7; exact absurd hb7 (by decide)
         | exact SayEq.no fun e => h12 (by rw [(hxy e).2.2.2.2.2.2.1, hw'] at hw; exact (Option.some.inj hw).symm)
         | exact SayEq.yes (all_get hl fun k hk => hsm k (by omega))
        ·
         refine Zj rfl rfl (Zg (Zi rfl Tryz.f49' rfl (by decide) rfl) rfl (Zj rfl rfl (Zg (Zl rfl Tryz.k24 rfl rfl rfl (vs := [_]) rfl rfl rfl) rfl (Zj rfl rfl (Zg (Zi rfl Tryz.f49' rfl (by decide) rfl) rfl (Zj rfl rfl (Zg (Zl rfl Tryz.k24 rfl rfl rfl (vs := [_]) rfl rfl rfl) rfl ?_)))))))
         refine Zj rfl rfl (Zt rfl rfl ?_)
         refine Zu (caps := []) trivial rfl rfl Tryz.c21 rfl (FnP.mono (texts_dec _ _ _ _ oka u s3 s3') ?_)
         rintro v u1 hle1 ⟨b2, rfl, hB2⟩
         refine Zj rfl rfl (Zg (Zbu rfl rfl) rfl (Zg (Zo rfl rfl rfl) rfl (ym rfl rfl ?_)))
         refine Zab 70 rfl (fun hg7_42 => ?_) (fun hg7_42 => ?_)
         ·
          iterate 7 refine Zp rfl rfl rfl rfl ?_
          refine Zg (Zk rfl rfl rfl) rfl (ym rfl rfl ?_)
          iterate 6 refine Zp rfl rfl rfl rfl ?_
          refine Zg (Zk rfl rfl rfl) rfl (Zf (ρ' := [(0, _), (1, _), (5, _), (6, _), (7, _), (86, _)]) ⟨rfl, rfl, rfl, rfl, rfl, rfl, trivial⟩ ?_)
          refine Zc (Zbc rfl (rfl) (Zd (Za (ya rfl rfl (Zf (ρ' := [(4, _)]) ⟨rfl, trivial⟩ ?_)))))
          refine Zc (Zx (Zh (Zq (Zh (Zh (Zq (Zh ?_)))))))
          refine Zau (.tmp rfl) ?_
          first
          | exact SayEq.no fun e => of_decide_eq_true hg7_5 (hxy e).1
          | exact SayEq.no fun e => of_decide_eq_true hg7_12 (hxy e).2.1
          | exact SayEq.no fun e => of_decide_eq_true hg7_19 (hxy e).2.2.1
          | exact SayEq.no fun e => of_decide_eq_true hg7_26 (hxy e).2.2.2.1
          | exact SayEq.no fun e => by rw [hB1.2 (hxy e).2.2.2.2.1] at hg7_34; exact absurd hg7_34 (by decide)
          | exact SayEq.no fun e => by rw [hB2.2 (hxy e).2.2.2.2.2.1] at hg7_42; exact absurd hg7_42 (by decide)
          | exact SayEq.no fun e => of_decide_eq_true hg7_51 (by rw [(hxy e).2.2.2.2.2.2.1])
          | exact SayEq.no fun e => by rw [hB3.2 (hxy e).2.2.2.2.2.2.2] at hb7; exact absurd hb7 (by decide)
          | exact SayEq.no fun e => h12 (by rw [(hxy e).2.2.2.2.2.2.1, hw'] at hw; exact (Option.some.inj hw).symm)
          | exact SayEq.yes (all_get hl fun k hk => hsm k (by omega))
         ·
          refine Zj rfl rfl (Zg (Zi rfl Tryz.f49' rfl (by decide) rfl) rfl (Zj rfl rfl (Zg (Zl rfl Tryz.k47 rfl rfl rfl (vs := [_]) rfl rfl rfl) rfl (Zj rfl rfl (Zg (Zah rfl rfl Tryz.s47 rfl) rfl (Zj rfl rfl (Zg (Zi rfl Tryz.f49' rfl (by decide) rfl) rfl ?_)))))))
          refine Zj rfl rfl (Zg (Zl rfl Tryz.k47 rfl rfl rfl (vs := [_]) rfl rfl rfl) rfl (Zj rfl rfl (Zg (Zah rfl rfl Tryz.s47 rfl) rfl (Zj rfl rfl (Zg (y_neq rfl rfl rfl) rfl (Zg (Zo rfl rfl rfl) rfl (ym rfl rfl ?_)))))))
          refine Zab 79 rfl (fun hg7_51 => ?_) (fun hg7_51 => ?_)
          ·
           iterate 6 refine Zp rfl rfl rfl rfl ?_
           refine Zg (Zk rfl rfl rfl) rfl (Zf (ρ' := [(0, _), (1, _), (5, _), (6, _), (7, _), (86, _)]) ⟨rfl, rfl, rfl, rfl, rfl, rfl, trivial⟩ ?_)
           refine Zc (Zbc rfl (rfl) (Zd (Za (ya rfl rfl (Zf (ρ' := [(4, _)]) ⟨rfl, trivial⟩ ?_)))))
           refine Zc (Zx (Zh (Zq (Zh (Zh (Zq (Zh ?_)))))))
           refine Zau (.tmp rfl) ?_
           first
           | exact SayEq.no fun e => of_decide_eq_true hg7_5 (hxy e).1
           | exact SayEq.no fun e => of_decide_eq_true hg7_12 (hxy e).2.1
           | exact SayEq.no fun e => of_decide_eq_true hg7_19 (hxy e).2.2.1
           | exact SayEq.no fun e => of_decide_eq_true hg7_26 (hxy e).2.2.2.1
           | exact SayEq.no fun e => by rw [hB1.2 (hxy e).2.2.2.2.1] at hg7_34; exact absurd hg7_34 (by decide)
           | exact SayEq.no fun e => by rw [hB2.2 (hxy e).2.2.2.2.2.1] at hg7_42; exact absurd hg7_42 (by decide)
           | exact SayEq.no fun e => of_decide_eq_true hg7_51 (by rw [(hxy e).2.2.2.2.2.2.1])
           | exact SayEq.no fun e => by rw [hB3.2 (hxy e).2.2.2.2.2.2.2] at hb7; exact absurd hb7 (by decide)
           | exact SayEq.no fun e => h12 (by rw [(hxy e).2.2.2.2.2.2.1, hw'] at hw; exact (Option.some.inj hw).symm)
           | exact SayEq.yes (all_get hl fun k hk => hsm k (by omega))
          ·
           refine Zj rfl rfl (Zg (Zi rfl Tryz.f49' rfl (by decide) rfl) rfl (Zj rfl rfl (Zg (Zl rfl Tryz.k22 rfl rfl rfl (vs := [_]) rfl rfl rfl) rfl (Zj rfl rfl (Zg (Zi rfl Tryz.f49' rfl (by decide) rfl) rfl (Zj rfl rfl (Zg (Zl rfl Tryz.k22 rfl rfl rfl (vs := [_]) rfl rfl rfl) rfl ?_)))))))
           refine Zj rfl rfl (Zt rfl rfl ?_)
           refine Zu (caps := []) trivial rfl rfl Tryz.c9 rfl (FnP.mono (ih _ (by omega : szI kids < n) _ _ kids kids' (Nat.le_refl _) okk u s5 s5') ?_)
           rintro v u1 hle1 ⟨b3, rfl, hB3⟩
           refine Zj rfl rfl (Zg (Zbu rfl rfl) rfl (Zg (Zo rfl rfl rfl) rfl (Zf (ρ' := [(0, _), (1, _), (5, _), (6, _), (7, _), (86, _)]) ⟨rfl, rfl, rfl, rfl, rfl, rfl, trivial⟩ ?_)))
           refine Zc ?_
           refine Zr rfl (fun hb7 => ?_) (fun hb7 => ?_)
           ·
            refine Zd (Za (ya rfl rfl (Zf (ρ' := [(4, _)]) ⟨rfl, trivial⟩ ?_)))
            refine Zc (Zx (Zh (Zq (Zh (Zh (Zq (Zh ?_)))))))
            refine Zau (.tmp rfl) ?_
            first
            | exact SayEq.no fun e => of_decide_eq_true hg7_5 (hxy e).1
            | exact SayEq.no fun e => of_decide_eq_true hg7_12 (hxy e).2.1
            | exact SayEq.no fun e => of_decide_eq_true hg7_19 (hxy e).2.2.1
            | exact SayEq.no fun e => of_decide_eq_true hg7_26 (hxy e).2.2.2.1
            | exact SayEq.no fun e => by rw [hB1.2 (hxy e).2.2.2.2.1] at hg7_34; exact absurd hg7_34 (by decide)
            | exact SayEq.no fun e => by rw [hB2.2 (hxy e).2.2.2.2.2.1] at hg7_42; exact absurd hg7_42 (by decide)
            | exact SayEq.no fun e => of_decide_eq_true hg7_51 (by rw [(hxy e).2.2.2.2.2.2.1])
            | exact SayEq.no fun e => by rw [hB3.2 (hxy e).2.2.2.2.2.2.2] at hb7; exact absurd hb7 (by decide)
            | exact SayEq.no fun e => h12 (by rw [(hxy e).2.2.2.2.2.2.1, hw'] at hw; exact (Option.some.inj hw).symm)
            | exact SayEq.yes (all_get hl fun k hk => hsm k (by omega))
           ·
            refine Zs (Zc (Zd (Za (ya rfl rfl (Zf (ρ' := [(0, _), (1, _), (5, _), (6, _), (7, _), (8, _)]) ⟨rfl, rfl, rfl, rfl, rfl, rfl, trivial⟩ ?_)))))
            refine Zc (Zv ?_)
            refine Zas (fun m_0 ρ σ u' => ∃ j : Nat, j + m_0 = cites.length ∧ VLe u u' ∧ σ = [(6, (none, .box (inlV k t d ti a.id vc vp va (.slice adt cites.length capt) vk))), (7, (none, .box (inlV k' t' d' ti' a'.id vc' vp' va' (.slice adt' cites'.length capt') vk')))] ∧ ρ = [(0, .v (.slice ad xs.length cap)), (1, .v (.slice ad2 ys.length cap2)), (5, .v (.int .i64 i)), (6, .p 6 0), (7, .p 7 0), (8, .v (.int .i64 j))] ∧ (u = u' ∧ ∀ q, q < j → cites[q]? = cites'[q]?)) (cites.length) ?_ ?_
            ·
             refine ⟨[(0, _), (1, _), (5, _), (6, _), (7, _), (8, _)], [(6, _), (7, _)], ⟨rfl, rfl, rfl, rfl, rfl, rfl, trivial⟩, ⟨rfl, rfl, trivial⟩, 0, by omega, VLe.refl _, (by first | rfl | simp), (by first | rfl | (simp only [List.cons.injEq, Prod.mk.injEq, SV.v.injEq, Value.int.injEq, true_and, and_true]; omega) | simp), ?_⟩
             exact ⟨rfl, fun q hq => by omega⟩
            ·
             rintro mj ρ σ u' ⟨j, hi10, hle10, rfl, rfl, ⟨rfl, hsc⟩⟩
             refine Zd (Zd (Za (ym rfl rfl (Zg (Zi rfl Tryz.f49' rfl (by decide) rfl) rfl (Zg (Zl rfl Tryz.k47 rfl rfl rfl (vs := [_]) rfl rfl rfl) rfl (Zg (Zah rfl rfl Tryz.s47 rfl) rfl (Zg (Zaz rfl rfl rfl) rfl (Zf (ρ' := [(0, _), (1, _), (5, _), (6, _), (7, _), (8, _), (91, _)]) ⟨rfl, rfl, rfl, rfl, rfl, rfl, rfl, trivial⟩ ?_))))))))
             refine Zc ?_
             refine Zr rfl (fun hb10 => ?_) (fun hb10 => ?_)
             ·
              have hlen : cites.length = cites'.length := by have := Decidable.of_not_not (of_decide_eq_false hg7_51); omega
              have hltj : j < cites.length := by have := of_decide_eq_true hb10; omega
              obtain ⟨⟨w1, w2, w3, w4⟩, hw⟩ : ∃ w, cites[j]? = some w := ⟨_, List.getElem?_eq_getElem hltj⟩
              obtain ⟨⟨w1', w2', w3', w4'⟩, hw'⟩ : ∃ w, cites'[j]? = some w := ⟨_, List.getElem?_eq_getElem (by omega)⟩
              have hcc : cut (citesC cites) (j * 4) 4 = [str w1, str w2, str w3, .bool w4] := cut_citesC hw
              have hcc' : cut (citesC cites') (j * 4) 4 = [str w1', str w2', str w3', .bool w4'] := cut_citesC hw'
              refine Zs (Zc (Zd (Zv (Zd ?_))))
              refine Zbf Tryz.mixed rfl [(6, _), (7, _)] ⟨rfl, rfl, trivial⟩ ?_
              refine Zar 0 rfl (by kernel_rfl) (Zb (Ze (Zb (Zb (Ze (Ze (Zb (Zb (Ze (Zb (Zw))))))))))) (Zi rfl Tryz.f49' rfl (by decide) rfl) rfl ?_
              refine Zar 1 rfl (by kernel_rfl) (Zb (Ze (Zb (Zb (Ze (Ze (Zb (Zb (Ze (Zb (Zw))))))))))) (Zl rfl Tryz.k47 rfl rfl rfl (vs := [_]) rfl rfl rfl) rfl ?_
              refine Zar 2 rfl (by kernel_rfl) (Zb (Ze (Zb (Zb (Ze (Ze (Zb (Zb (Ze (Zb (Zw))))))))))) (Zan rfl rfl) rfl ?_
              refine Zar 3 rfl (by kernel_rfl) (Zb (Ze (Zb (Zb (Ze (Ze (Zb (Zb (Ze (Zb (Zw))))))))))) (Zad rfl Tryz.s47 rfl rfl h4 rfl (by omega)) rfl ?_
              refine Zar 4 rfl (by kernel_rfl) (Zb (Ze (Zb (Zb (Ze (Ze (Zb (Zb (Ze (Zb (Zw))))))))))) (Zac rfl Tryz.k59 rfl h4 (by omega) hcc (vs := [_, _, _, _]) rfl rfl rfl rfl) rfl ?_
              refine Zar 5 rfl (by kernel_rfl) (Zb (Ze (Zb (Zb (Ze (Ze (Zb (Zb (Ze (Zb (Zw))))))))))) (Zi rfl Tryz.f49' rfl (by decide) rfl) rfl ?_
              refine Zar 6 rfl (by kernel_rfl) (Zb (Ze (Zb (Zb (Ze (Ze (Zb (Zb (Ze (Zb (Zw))))))))))) (Zl rfl Tryz.k47 rfl rfl rfl (vs := [_]) rfl rfl rfl) rfl ?_
              refine Zar 7 rfl (by kernel_rfl) (Zb (Ze (Zb (Zb (Ze (Ze (Zb (Zb (Ze (Zb (Zw))))))))))) (Zan rfl rfl) rfl ?_
              refine Zar 8 rfl (by kernel_rfl) (Zb (Ze (Zb (Zb (Ze (Ze (Zb (Zb (Ze (Zb (Zw))))))))))) (Zad rfl Tryz.s47 rfl rfl h4' rfl (by omega)) rfl ?_
              refine Zar 9 rfl (by kernel_rfl) (Zb (Ze (Zb (Zb (Ze (Ze (Zb (Zb (Ze (Zb (Zw))))))))))) (Zac rfl Tryz.k59 rfl h4' (by omega) hcc' (vs := [_, _, _, _]) rfl rfl rfl rfl) rfl ?_
              refine Zar 10 rfl (by kernel_rfl) (Zb (Ze (Zb (Zb (Ze (Ze (Zb (Zb (Ze (Zb (Zw))))))))))) (y_neq_flat Tryz.q59 rfl rfl rfl rfl rfl) rfl ?_
              refine Zbm (by kernel_rfl) (ρ' := [(0, _), (1, _), (5, _), (6, _), (7, _), (8, _), (104, _)]) ⟨rfl, rfl, rfl, rfl, rfl, rfl, rfl, trivial⟩ ?_
              refine Zc ?_
              refine Zr rfl (fun hb12 => ?_) (fun hb12 => ?_)
              ·
               have h12 : ¬ (⟨w1, w2, w3, w4⟩ : DCite) = ⟨w1', w2', w3', w4'⟩ := fun e => by
                have h := (cmp_ci w1 w2 w3 w4 w1' w2' w3' w4').2 e
                have h' : (!cmpB [(0, .s), (1, .s), (2, .s), (3, .b)] [str w1, str w2, str w3, .bool w4] [str w1', str w2', str w3', .bool w4']) = true := hb12
                rw [h] at h'; cases h'
               refine Zd (Za (ya rfl rfl (Zf (ρ' := [(4, _)]) ⟨rfl, trivial⟩ ?_)))
               refine Zc (Zx (Zq (Zh (Zh (Zq (Zq (Zh ?_)))))))
               refine Zh (Zq (Zh (Zau (.tmp rfl) ?_)))
               first
               | exact SayEq.no fun e => of_decide_eq_true hg7_5 (hxy e).1
               | exact SayEq.no fun e => of_decide_eq_true hg7_12 (hxy e).2.1
               | exact SayEq.no fun e => of_decide_eq_true hg7_19 (hxy e).2.2.1
               | exact SayEq.no fun e => of_decide_eq_true hg7_26 (hxy e).2.2.2.1
               | exact SayEq.no fun e => by rw [hB1.2 (hxy e).2.2.2.2.1] at hg7_34; exact absurd hg7_34 (by decide)
               | exact SayEq.no fun e => by rw [hB2.2 (hxy e).2.2.2.2.2.1] at hg7_42; exact absurd hg7_42 (by decide)
               | exact SayEq.no fun e => of_decide_eq_true hg7_51 (by rw [(hxy e).2.2.2.2.2.2.1])
               | exact SayEq.no fun e => by rw [hB3.2 (hxy e).2.2.2.2.2.2.2] at hb7; exact absurd hb7 (by decide)
               | exact SayEq.no fun e => h12 (by rw [(hxy e).2.2.2.2.2.2.1, hw'] at hw; exact (Option.some.inj hw).symm)
               | exact SayEq.yes (all_get hl fun k hk => hsm k (by omega))
              ·
               have h12 : (⟨w1, w2, w3, w4⟩ : DCite) = ⟨w1', w2', w3', w4'⟩ := (cmp_ci w1 w2 w3 w4 w1' w2' w3' w4').1 (by
                have h' : (!cmpB [(0, .s), (1, .s), (2, .s), (3, .b)] [str w1, str w2, str w3, .bool w4] [str w1', str w2', str w3', .bool w4']) = false := hb12
                revert h'
                cases cmpB [(0, .s), (1, .s), (2, .s), (3, .b)] [str w1, str w2, str w3, .bool w4] [str w1', str w2', str w3', .bool w4'] <;> simp)
               refine Zs (Zaj (Zc (Za (ym rfl rfl (Zg (Zap rfl rfl rfl (Zn (by omega))) rfl ?_)))))
               refine ya rfl rfl (Zf (ρ' := [(0, _), (1, _), (5, _), (6, _), (7, _), (8, _)]) ⟨rfl, rfl, rfl, rfl, rfl, rfl, trivial⟩ ?_)
               refine Zae ?_
               refine ⟨mj - 1, [(0, _), (1, _), (5, _), (6, _), (7, _), (8, _)], [(6, _), (7, _)], by omega, ⟨rfl, rfl, rfl, rfl, rfl, rfl, trivial⟩, ⟨rfl, rfl, trivial⟩, j + 1, by omega, hle10, (by first | rfl | simp), (by first | rfl | (simp only [List.cons.injEq, Prod.mk.injEq, SV.v.injEq, Value.int.injEq, true_and, and_true]; omega) | simp), ?_⟩
               exact ⟨rfl, get_up hsc (by rw [hw, hw', h12])⟩
             ·
              have hlen : cites.length = cites'.length := by have := Decidable.of_not_not (of_decide_eq_false hg7_51); omega
              have h10n := of_decide_eq_false hb10
              refine Zao ?_
              refine Zm (Zm ?_)
              refine Zaa ?_
              refine Zaj (Zc (Za (ym rfl rfl (Zg (Zap rfl rfl rfl (Zn (by omega))) rfl ?_))))
              refine ya rfl rfl (Zf (ρ' := [(0, _), (1, _), (5, _)]) ⟨rfl, rfl, rfl, trivial⟩ ?_)
              refine Zae ?_
              refine ⟨m - 1, [(0, _), (1, _), (5, _)], [], by omega, ⟨rfl, rfl, rfl, trivial⟩, trivial, i + 1, by omega, hle4, (by first | rfl | simp), (by first | rfl | (simp only [List.cons.injEq, Prod.mk.injEq, SV.v.injEq, Value.int.injEq, true_and, and_true]; omega) | simp), ?_⟩
              refine ⟨rfl, get_up hsm ?_⟩
              have e1 : k = k' := Decidable.of_not_not (of_decide_eq_false hg7_5)
              have e2 : t = t' := Decidable.of_not_not (of_decide_eq_false hg7_12)
              have e3 : d = d' := Decidable.of_not_not (of_decide_eq_false hg7_19)
              have e4 : ti = ti' := Decidable.of_not_not (of_decide_eq_false hg7_26)
              have e5 : a = a' := hB1.1 (by cases b1 <;> simp_all)
              have e6 : args = args' := hB2.1 (by cases b2 <;> simp_all)
              have e7 : cites = cites' := all_get hlen fun q hq => hsc q (by omega)
              have e8 : kids = kids' := hB3.1 (by cases b3 <;> simp_all)
              rw [hg, hg', e1, e2, e3, e4, e5, e6, e7, e8]
   ·
    have h4n := of_decide_eq_false hb4
    refine Zao ?_
    refine Zm (Zm ?_)
    refine Zaa ?_
    refine Zc (Zd (Za (ya rfl rfl (Zf (ρ' := [(4, _)]) ⟨rfl, trivial⟩ ?_))))
    refine Zc (Zx (Zau (.tmp rfl) ?_))
    first
    | exact SayEq.no fun e => of_decide_eq_true hg7_5 (hxy e).1
    | exact SayEq.no fun e => of_decide_eq_true hg7_12 (hxy e).2.1
    | exact SayEq.no fun e => of_decide_eq_true hg7_19 (hxy e).2.2.1
    | exact SayEq.no fun e => of_decide_eq_true hg7_26 (hxy e).2.2.2.1
    | exact SayEq.no fun e => by rw [hB1.2 (hxy e).2.2.2.2.1] at hg7_34; exact absurd hg7_34 (by decide)
    | exact SayEq.no fun e => by rw [hB2.2 (hxy e).2.2.2.2.2.1] at hg7_42; exact absurd hg7_42 (by decide)
    | exact SayEq.no fun e => of_decide_eq_true hg7_51 (by rw [(hxy e).2.2.2.2.2.2.1])
    | exact SayEq.no fun e => by rw [hB3.2 (hxy e).2.2.2.2.2.2.2] at hb7; exact absurd hb7 (by decide)
    | exact SayEq.no fun e => h12 (by rw [(hxy e).2.2.2.2.2.2.1, hw'] at hw; exact (Option.some.inj hw).symm)
    | exact SayEq.yes (all_get hl fun k hk => hsm k (by omega))
def decI (k : Int) : Bs := if k < 0 then 45 :: dec k.natAbs else dec k.natAbs
theorem dig_val {i j : Nat} (hi : i < 10) (hj : j < 10) (h : UInt8.ofNat (48 + i) = UInt8.ofNat (48 + j)) : i = j := by
 have := congrArg UInt8.toNat h
 simp [UInt8.toNat_ofNat'] at this
 omega
theorem dig_ge {i : Nat} (hi : i < 10) : UInt8.ofNat (48 + i) ≠ 59 ∧ UInt8.ofNat (48 + i) ≠ 45 := by
 refine ⟨fun h => ?_, fun h => ?_⟩
 ·
  have := congrArg UInt8.toNat h; simp [UInt8.toNat_ofNat'] at this; omega
 ·
  have := congrArg UInt8.toNat h; simp [UInt8.toNat_ofNat'] at this; omega
theorem dec_mem (n : Nat) : ∀ c ∈ dec n, c ≠ 59 ∧ c ≠ 45 := by
 induction n using Nat.strongRecOn with
 | _ n ih =>
  intro c hc
  by_cases h : n < 10
  ·
   rw [dec_small h] at hc
   simp only [List.mem_cons, List.not_mem_nil, or_false] at hc
   subst hc
   exact dig_ge h
  ·
   rw [dec_big h] at hc
   rcases List.mem_append.1 hc with hc | hc
   ·
    exact ih (n / 10) (by omega) c hc
   ·
    simp only [List.mem_cons, List.not_mem_nil, or_false] at hc
    subst hc
    exact dig_ge (by omega)
theorem dec_ne (n : Nat) : dec n ≠ [] := by
 by_cases h : n < 10
 ·
  rw [dec_small h]; simp
 ·
  rw [dec_big h]; simp
theorem dec_inj (n : Nat) : ∀ m, dec n = dec m → n = m := by
 induction n using Nat.strongRecOn with
 | _ n ih =>
  intro m h
  by_cases hn : n < 10 <;> by_cases hm : m < 10
  ·
   rw [dec_small hn, dec_small hm] at h
   exact dig_val hn hm (by simpa using h)
  ·
   rw [dec_small hn, dec_big hm] at h
   have := congrArg List.length h
   have h0 : (dec (m / 10)).length ≠ 0 := fun e => dec_ne _ (List.eq_nil_of_length_eq_zero e)
   simp only [List.length_append, List.length_cons, List.length_nil] at this; omega
  ·
   rw [dec_small hm, dec_big hn] at h
   have := congrArg List.length h
   have h0 : (dec (n / 10)).length ≠ 0 := fun e => dec_ne _ (List.eq_nil_of_length_eq_zero e)
   simp only [List.length_append, List.length_cons, List.length_nil] at this; omega
  ·
   rw [dec_big hn, dec_big hm] at h
   have h1 := List.append_inj' h rfl
   have h2 := ih (n / 10) (by omega) (m / 10) h1.1
   have h3 : n % 10 = m % 10 := dig_val (by omega) (by omega) (by simpa using h1.2)
   omega
theorem decI_mem (k : Int) : ∀ c ∈ decI k, c ≠ 59 := by
 intro c hc
 unfold decI at hc
 split at hc
 ·
  rcases List.mem_cons.1 hc with rfl | hc
  ·
   decide
  ·
   exact (dec_mem _ c hc).1
 ·
  exact (dec_mem _ c hc).1
theorem decI_inj {k l : Int} (h : decI k = decI l) : k = l := by
 have key : ∀ a b : Nat, 45 :: dec a ≠ dec b := by
  intro a b e
  exact (dec_mem b 45 (by rw [← e]; simp)).2 rfl
 unfold decI at h
 split at h <;> split at h
 ·
  have := dec_inj _ _ (by simpa using h); omega
 ·
  exact absurd h (key _ _)
 ·
  exact absurd h.symm (key _ _)
 ·
  have := dec_inj _ _ h; omega
def UD {α : Type} (e : α → Bs) : Prop := ∀ x y r s, e x ++ r = e y ++ s → x = y ∧ r = s
def eN (k : Int) : Bs := decI k ++ [59]
def eT (s : Bs) : Bs := eN s.length ++ s
theorem split59 : ∀ (a b r s : Bs), (∀ c ∈ a, c ≠ 59) → (∀ c ∈ b, c ≠ 59) → a ++ 59 :: r = b ++ 59 :: s → a = b ∧ r = s
 | [], [], r, s, _, _, h => ⟨rfl, by simpa using h⟩
 | [], y :: b, r, s, _, hb, h => by
  simp at h
  exact absurd h.1.symm (hb y (by simp))
 | x :: a, [], r, s, ha, _, h => by
  simp at h
  exact absurd h.1 (ha x (by simp))
 | x :: a, y :: b, r, s, ha, hb, h => by
  simp only [List.cons_append, List.cons.injEq] at h
  obtain ⟨h1, h2⟩ := split59 a b r s (fun c hc => ha c (by simp [hc])) (fun c hc => hb c (by simp [hc])) h.2
  exact ⟨by rw [h.1, h1], h2⟩
theorem eN_ud : UD eN := by
 intro x y r s h
 simp only [eN, List.append_assoc, List.cons_append, List.nil_append] at h
 obtain ⟨h1, h2⟩ := split59 _ _ _ _ (decI_mem x) (decI_mem y) h
 exact ⟨decI_inj h1, h2⟩
theorem eT_ud : UD eT := by
 intro x y r s h
 simp only [eT, List.append_assoc] at h
 obtain ⟨h1, h2⟩ := eN_ud _ _ _ _ h
 exact List.append_inj h2 (by omega)
theorem flat_ud {α : Type} {e : α → Bs} (he : UD e) : ∀ (xs ys : List α) (r s : Bs), xs.length = ys.length → xs.flatMap e ++ r = ys.flatMap e ++ s → xs = ys ∧ r = s
 | [], [], r, s, _, h => ⟨rfl, h⟩
 | x :: xs, y :: ys, r, s, hl, h => by
  simp only [List.flatMap_cons, List.append_assoc] at h
  obtain ⟨h1, h2⟩ := he _ _ _ _ h
  obtain ⟨h3, h4⟩ := flat_ud he xs ys r s (by simpa using hl) h2
  exact ⟨by rw [h1, h3], h4⟩
 | [], y :: ys, r, s, hl, h => by simp at hl
 | x :: xs, [], r, s, hl, h => by simp at hl
def eLs {α : Type} (e : α → Bs) (xs : List α) : Bs := eN xs.length ++ xs.flatMap e
theorem eLs_ud {α : Type} {e : α → Bs} (he : UD e) : UD (eLs e) := by
 intro x y r s h
 simp only [eLs, List.append_assoc] at h
 obtain ⟨h1, h2⟩ := eN_ud _ _ _ _ h
 exact flat_ud he _ _ _ _ (by omega) h2
def eP (p : Bs × Bs) : Bs := eT p.1 ++ eT p.2
theorem eP_ud : UD eP := by
 intro x y r s h
 simp only [eP, List.append_assoc] at h
 obtain ⟨h1, h2⟩ := eT_ud _ _ _ _ h
 obtain ⟨h3, h4⟩ := eT_ud _ _ _ _ h2
 exact ⟨Prod.ext h1 h3, h4⟩
def eA (a : DAttr) : Bs := eT a.id ++ eLs eT a.classes ++ eLs eP a.pairs
theorem eA_ud : UD eA := by
 intro x y r s h
 simp only [eA, List.append_assoc] at h
 obtain ⟨h1, h⟩ := eT_ud _ _ _ _ h
 obtain ⟨h2, h⟩ := eLs_ud eT_ud _ _ _ _ h
 obtain ⟨h3, h⟩ := eLs_ud eP_ud _ _ _ _ h
 refine ⟨?_, h⟩
 cases x; cases y
 simp only at h1 h2 h3
 rw [h1, h2, h3]
def eC (c : DCite) : Bs := eT c.key ++ eT c.pre ++ eT c.suf ++ eN (if c.bare = true then 1 else 0)
theorem eC_ud : UD eC := by
 intro x y r s h
 simp only [eC, List.append_assoc] at h
 obtain ⟨h1, h⟩ := eT_ud _ _ _ _ h
 obtain ⟨h2, h⟩ := eT_ud _ _ _ _ h
 obtain ⟨h3, h⟩ := eT_ud _ _ _ _ h
 obtain ⟨h4, h⟩ := eN_ud _ _ _ _ h
 refine ⟨?_, h⟩
 obtain ⟨k1, k2, k3, k4⟩ := x
 obtain ⟨l1, l2, l3, l4⟩ := y
 simp only at h1 h2 h3 h4
 have : k4 = l4 := by cases k4 <;> cases l4 <;> simp at h4 <;> rfl
 rw [h1, h2, h3, this]
mutual
def eI : Inl → Bs
 | .mk k t d ti a args cites kids => eN k ++ eT t ++ eT d ++ eT ti ++ eA a ++ eLs eT args ++ eLs eC cites ++ (eN kids.length ++ eIs kids)
def eIs : List Inl → Bs
 | [] => []
 | x :: xs => eI x ++ eIs xs
end
mutual
theorem eI_ud : ∀ (x y : Inl) (r s : Bs), eI x ++ r = eI y ++ s → x = y ∧ r = s
 | .mk k t d ti a args cites kids, .mk k' t' d' ti' a' args' cites' kids', r, s, h => by
  simp only [eI, List.append_assoc] at h
  obtain ⟨h1, h⟩ := eN_ud _ _ _ _ h
  obtain ⟨h2, h⟩ := eT_ud _ _ _ _ h
  obtain ⟨h3, h⟩ := eT_ud _ _ _ _ h
  obtain ⟨h4, h⟩ := eT_ud _ _ _ _ h
  obtain ⟨h5, h⟩ := eA_ud _ _ _ _ h
  obtain ⟨h6, h⟩ := eLs_ud eT_ud _ _ _ _ h
  obtain ⟨h7, h⟩ := eLs_ud eC_ud _ _ _ _ h
  obtain ⟨h8, h⟩ := eN_ud _ _ _ _ h
  obtain ⟨h9, h⟩ := eIs_ud kids kids' r s (by omega) h
  exact ⟨by rw [h1, h2, h3, h4, h5, h6, h7, h9], h⟩
theorem eIs_ud : ∀ (xs ys : List Inl) (r s : Bs), xs.length = ys.length → eIs xs ++ r = eIs ys ++ s → xs = ys ∧ r = s
 | [], [], r, s, _, h => ⟨rfl, h⟩
 | x :: xs, y :: ys, r, s, hl, h => by
  simp only [eIs, List.append_assoc] at h
  obtain ⟨h1, h⟩ := eI_ud x y _ _ h
  obtain ⟨h2, h⟩ := eIs_ud xs ys r s (by simpa using hl) h
  exact ⟨by rw [h1, h2], h⟩
 | [], y :: ys, r, s, hl, h => by simp at hl
 | x :: xs, [], r, s, hl, h => by simp at hl
end
def eL (xs : List Inl) : Bs := eN xs.length ++ eIs xs
theorem eL_ud : UD eL := by
 intro x y r s h
 simp only [eL, List.append_assoc] at h
 obtain ⟨h1, h2⟩ := eN_ud _ _ _ _ h
 exact eIs_ud _ _ _ _ (by omega) h2
mutual
def eB : Blk → Bs
 | .mk k lv inf t d ti a line kids => eN k ++ eN lv ++ eT inf ++ eT t ++ eT d ++ eT ti ++ eA a ++ eL line ++ (eN kids.length ++ eBs kids)
def eBs : List Blk → Bs
 | [] => []
 | x :: xs => eB x ++ eBs xs
end
mutual
theorem eB_ud : ∀ (x y : Blk) (r s : Bs), eB x ++ r = eB y ++ s → x = y ∧ r = s
 | .mk k lv inf t d ti a line kids, .mk k' lv' inf' t' d' ti' a' line' kids', r, s, h => by
  simp only [eB, List.append_assoc] at h
  obtain ⟨h1, h⟩ := eN_ud _ _ _ _ h
  obtain ⟨h2, h⟩ := eN_ud _ _ _ _ h
  obtain ⟨h3, h⟩ := eT_ud _ _ _ _ h
  obtain ⟨h4, h⟩ := eT_ud _ _ _ _ h
  obtain ⟨h5, h⟩ := eT_ud _ _ _ _ h
  obtain ⟨h6, h⟩ := eT_ud _ _ _ _ h
  obtain ⟨h7, h⟩ := eA_ud _ _ _ _ h
  obtain ⟨h8, h⟩ := eL_ud _ _ _ _ h
  obtain ⟨h9, h⟩ := eN_ud _ _ _ _ h
  obtain ⟨h10, h⟩ := eBs_ud kids kids' r s (by omega) h
  exact ⟨by rw [h1, h2, h3, h4, h5, h6, h7, h8, h10], h⟩
theorem eBs_ud : ∀ (xs ys : List Blk) (r s : Bs), xs.length = ys.length → eBs xs ++ r = eBs ys ++ s → xs = ys ∧ r = s
 | [], [], r, s, _, h => ⟨rfl, h⟩
 | x :: xs, y :: ys, r, s, hl, h => by
  simp only [eBs, List.append_assoc] at h
  obtain ⟨h1, h⟩ := eB_ud x y _ _ h
  obtain ⟨h2, h⟩ := eBs_ud xs ys r s (by simpa using hl) h
  exact ⟨by rw [h1, h2], h⟩
 | [], y :: ys, r, s, hl, h => by simp at hl
 | x :: xs, [], r, s, hl, h => by simp at hl
end
theorem eI_inj {x y : Inl} (h : eI x = eI y) : x = y := (eI_ud x y [] [] (by simpa using h)).1
theorem eB_inj {x y : Blk} (h : eB x = eB y) : x = y := (eB_ud x y [] [] (by simpa using h)).1
set_option linter.unusedSimpArgs false
set_option linter.unusedVariables false
set_option maxRecDepth 4000
def sp (c : UInt8) : Bool := decide (c = 32)
def lead (b : Bool) : Bs → Nat
 | [] => 0
 | c :: s => if sp c = b then lead b s + 1 else 0
theorem lead_le (b : Bool) : ∀ s : Bs, lead b s ≤ s.length
 | [] => Nat.le_refl _
 | c :: s => by
  have := lead_le b s
  simp only [lead]
  split <;> simp <;> omega
def runs : Bs → List Bs
 | [] => []
 | c :: s => (c :: s.take (lead (sp c) s)) :: runs (s.drop (lead (sp c) s))
termination_by s => s.length
decreasing_by simp; omega
theorem runs_flat (n : Nat) : ∀ s : Bs, s.length ≤ n → (runs s).flatten = s := by
 induction n with
 | zero => intro s h; rw [List.eq_nil_of_length_eq_zero (by omega : s.length = 0)]; rw [runs]; rfl
 | succ n ih =>
  intro s h
  cases s with
  | nil => rw [runs]; rfl
  | cons c s =>
   rw [runs, List.flatten_cons, ih _ (by simp at h ⊢; omega), List.cons_append, List.take_append_drop]
theorem runs_mem (n : Nat) : ∀ s : Bs, s.length ≤ n → ∀ w ∈ runs s, w ≠ [] ∧ ∀ c ∈ w, c ∈ s := by
 induction n with
 | zero => intro s h w hw; rw [List.eq_nil_of_length_eq_zero (by omega : s.length = 0), runs] at hw; cases hw
 | succ n ih =>
  intro s h w hw
  cases s with
  | nil => rw [runs] at hw; cases hw
  | cons c s =>
   rw [runs] at hw
   rcases List.mem_cons.1 hw with rfl | hw
   ·
    refine ⟨by simp, fun d hd => ?_⟩
    rcases List.mem_cons.1 hd with rfl | hd
    ·
     simp
    ·
     exact List.mem_cons_of_mem _ (List.mem_of_mem_take hd)
   ·
    obtain ⟨h1, h2⟩ := ih _ (by simp at h ⊢; omega) w hw
    exact ⟨h1, fun d hd => List.mem_cons_of_mem _ (List.mem_of_mem_drop (h2 d hd))⟩
theorem runs_len (n : Nat) : ∀ s : Bs, s.length ≤ n → (runs s).length ≤ s.length := by
 induction n with
 | zero => intro s h; rw [List.eq_nil_of_length_eq_zero (by omega : s.length = 0), runs]; exact Nat.le_refl _
 | succ n ih =>
  intro s h
  cases s with
  | nil => rw [runs]; exact Nat.le_refl _
  | cons c s =>
   have h1 := ih (s.drop (lead (sp c) s)) (by simp at h ⊢; omega)
   rw [runs, List.length_cons, List.length_cons]
   simp at h1
   omega
def kindI : Inl → Int
 | .mk k _ _ _ _ _ _ _ => k
def wordI : Inl → List Bs
 | .mk k t d ti a args cites kids => if k = 1 then runs t else [10 :: eI (.mk k t d ti a args cites kids)]
def wordsL (l : List Inl) : List Bs := l.flatMap wordI
def tI (s : Bs) : Inl := .mk 1 s [] [] ⟨[], [], []⟩ [] [] []
def WfL : List Inl → Prop
 | [] => True
 | x :: xs => (kindI x = 1 → ∃ t, x = tI t ∧ t ≠ [] ∧ (10 : UInt8) ∉ t) ∧ (kindI x = 1 → ∀ y, xs.head? = some y → kindI y ≠ 1) ∧ WfL xs
def NoT (l : List Bs) : Prop := ∀ w, l.head? = some w → w.head? = some 10
theorem wordI_text {x : Inl} {t : Bs} (h : x = tI t) : wordI x = runs t := by subst h; rfl
theorem wordI_other {x : Inl} (h : kindI x ≠ 1) : wordI x = [10 :: eI x] := by
 obtain ⟨k, t, d, ti, a, args, cites, kids⟩ := x
 simp only [kindI] at h
 simp only [wordI, if_neg h]
theorem runs_cons {t : Bs} (h : t ≠ []) (h10 : (10 : UInt8) ∉ t) : ∃ w r, runs t = w :: r ∧ w.head? ≠ some 10 := by
 cases t with
 | nil => exact absurd rfl h
 | cons c s =>
  refine ⟨_, _, by rw [runs], ?_⟩
  intro e
  simp at e
  exact h10 (by rw [e]; simp)
theorem noT_words {l : List Inl} (h : WfL l) (h2 : ∀ y, l.head? = some y → kindI y ≠ 1) : NoT (wordsL l) := by
 intro w hw
 cases l with
 | nil => simp [wordsL] at hw
 | cons y l =>
  have := wordI_other (h2 y rfl)
  have e1 : wordsL (y :: l) = wordI y ++ wordsL l := rfl
  rw [e1, this] at hw
  simp at hw
  subst hw; rfl
theorem runs_split : ∀ (a b r s : List Bs), (∀ w ∈ a, w.head? ≠ some 10) → (∀ w ∈ b, w.head? ≠ some 10) → NoT r → NoT s → a ++ r = b ++ s → a = b ∧ r = s
 | [], [], r, s, _, _, _, _, h => ⟨rfl, h⟩
 | [], y :: b, r, s, _, hb, hr, _, h => by
  simp at h
  subst h
  exact absurd (hr y rfl) (hb y (by simp))
 | x :: a, [], r, s, ha, _, _, hs, h => by
  simp at h
  subst h
  exact absurd (hs x rfl) (ha x (by simp))
 | x :: a, y :: b, r, s, ha, hb, hr, hs, h => by
  simp only [List.cons_append, List.cons.injEq] at h
  obtain ⟨h1, h2⟩ := runs_split a b r s (fun w hw => ha w (by simp [hw])) (fun w hw => hb w (by simp [hw])) hr hs h.2
  exact ⟨by rw [h.1, h1], h2⟩
theorem runs_no10 {t : Bs} (h10 : (10 : UInt8) ∉ t) : ∀ w ∈ runs t, w.head? ≠ some 10 := by
 intro w hw e
 obtain ⟨_, h2⟩ := runs_mem _ t (Nat.le_refl _) w hw
 exact h10 (h2 10 (List.mem_of_mem_head? e))
theorem runs_inj {s t : Bs} (h : runs s = runs t) : s = t := by
 rw [← runs_flat _ s (Nat.le_refl _), ← runs_flat _ t (Nat.le_refl _), h]
theorem words_inj : ∀ (a b : List Inl), WfL a → WfL b → wordsL a = wordsL b → a = b
 | [], [], _, _, _ => rfl
 | [], y :: b, _, hb, h => by
  have e2 : wordsL (y :: b) = wordI y ++ wordsL b := rfl
  have e1 : wordsL [] = [] := rfl
  rw [e1, e2] at h
  by_cases hk : kindI y = 1
  ·
   obtain ⟨t, rfl, h1, h2⟩ := hb.1 hk
   obtain ⟨w, r, hr, _⟩ := runs_cons h1 h2
   rw [wordI_text rfl, hr] at h; cases h
  ·
   rw [wordI_other hk] at h; cases h
 | x :: a, [], ha, _, h => by
  have e2 : wordsL (x :: a) = wordI x ++ wordsL a := rfl
  have e1 : wordsL [] = [] := rfl
  rw [e1, e2] at h
  by_cases hk : kindI x = 1
  ·
   obtain ⟨t, rfl, h1, h2⟩ := ha.1 hk
   obtain ⟨w, r, hr, _⟩ := runs_cons h1 h2
   rw [wordI_text rfl, hr] at h; cases h
  ·
   rw [wordI_other hk] at h; cases h
 | x :: a, y :: b, ha, hb, h => by
  have e1 : wordsL (x :: a) = wordI x ++ wordsL a := rfl
  have e2 : wordsL (y :: b) = wordI y ++ wordsL b := rfl
  rw [e1, e2] at h
  by_cases hx : kindI x = 1 <;> by_cases hy : kindI y = 1
  ·
   obtain ⟨t, rfl, t1, t2⟩ := ha.1 hx
   obtain ⟨s, rfl, s1, s2⟩ := hb.1 hy
   rw [wordI_text rfl, wordI_text rfl] at h
   obtain ⟨h1, h2⟩ := runs_split _ _ _ _ (runs_no10 t2) (runs_no10 s2) (noT_words ha.2.2 (ha.2.1 hx)) (noT_words hb.2.2 (hb.2.1 hy)) h
   rw [runs_inj h1, words_inj a b ha.2.2 hb.2.2 h2]
  ·
   obtain ⟨t, rfl, t1, t2⟩ := ha.1 hx
   obtain ⟨w, r, hr, hw⟩ := runs_cons t1 t2
   rw [wordI_text rfl, hr, wordI_other hy] at h
   simp only [List.cons_append, List.cons.injEq] at h
   rw [h.1] at hw; simp at hw
  ·
   obtain ⟨t, rfl, t1, t2⟩ := hb.1 hy
   obtain ⟨w, r, hr, hw⟩ := runs_cons t1 t2
   rw [wordI_text rfl, hr, wordI_other hx] at h
   simp only [List.cons_append, List.cons.injEq] at h
   rw [← h.1] at hw; simp at hw
  ·
   rw [wordI_other hx, wordI_other hy] at h
   simp only [List.cons_append, List.nil_append, List.cons.injEq, true_and] at h
   rw [eI_inj h.1, words_inj a b ha.2.2 hb.2.2 h.2]
mutual
def plain1 : Inl → Bs
 | .mk k t d _ _ _ _ kids =>
  if k = 1 ∨ k = 4 ∨ k = 5 then t
  else if k = 2 ∨ k = 3 then [32]
  else if 6 ≤ k ∧ k ≤ 11 then plain kids
  else if k = 16 then d
  else []
def plain : List Inl → Bs
 | [] => []
 | x :: xs => plain1 x ++ plain xs
end
/- texts of at most B bytes -/
set_option linter.unusedSimpArgs false
set_option linter.unusedVariables false
set_option maxRecDepth 4000
mutual
def deep1 : Inl → List Inl
 | .mk k t d ti a args cites kids => .mk k t d ti a args cites kids :: deep kids
def deep : List Inl → List Inl
 | [] => []
 | x :: xs => deep1 x ++ deep xs
end
def lineOf : Blk → List Inl
 | .mk _ _ _ _ _ _ _ line _ => line
def inls (L : List Blk) : List Inl := L.flatMap fun b => deep (lineOf b)
set_option linter.unusedSimpArgs false
set_option linter.unusedVariables false
set_option maxRecDepth 4000
abbrev selfQ (b : Nat) : Option Addr := some ⟨b, 0, none⟩
def QOk (b : Nat) (q : Option Addr) : Prop := q = none ∨ q = selfQ b
abbrev wrL (b : Nat) (q : Option Addr) (ad : Option Addr) (cap : Nat) (l : Bs) : List PO := [(some b, .bt 75 [.pointer q, .slice ad l.length cap]), (none, .rwv (.slice ad l.length cap) 5 1 l.length (bytesC l))]
theorem wCheck0_fn (b : Nat) (v : Value) (hv : Value.oneCell' v = true) (u : View) :
  FnO Tryz.prog 85 [.pointer (some ⟨b, 0, none⟩)] u [(some b, .bt 75 [.pointer none, v])] fun r u' l' => r = .tuple #[] ∧ u = u' ∧ l' = [(some b, .bt 75 [.pointer (selfQ b), v])] := by
 refine FnO.intro [] Tryz.func85 rfl rfl rfl ?_
 intro w0 D hw0
 refine wc_pin 0 1000 _ 0 rfl rfl ?_
 refine Zd (Za (ym rfl rfl (Zg (Zbh rfl rfl) rfl (Zg (Zi rfl Tryz.f73' rfl (by decide) rfl) rfl (Zg (y_load_t rfl Tryz.k70 rfl rfl rfl (vs := [_]) rfl rfl rfl) rfl (Zg (y_ptr_eql_nil (e := 73) rfl (by kernel_rfl) rfl rfl) rfl (Zf (ρ' := [(0, _), (6, _)]) ⟨rfl, rfl, trivial⟩ ?_)))))))
 refine Zc (Zbc rfl (rfl) (Za (ym rfl rfl (ym rfl rfl (Zg (y_to_unsafe (t := 73) rfl (by kernel_rfl) (by kernel_rfl) Tryz.k73 rfl rfl rfl rfl rfl) rfl (Zg (y_noEscape rfl ⟨_, Tryz.func97, by kernel_rfl, by kernel_rfl, by kernel_rfl, by kernel_rfl⟩ rfl) rfl (Zg (y_from_unsafe (t := 73) rfl (by kernel_rfl) (by kernel_rfl) Tryz.k73 rfl rfl rfl (by kernel_rfl)) rfl ?_)))))))
 refine Zg (Zbh rfl rfl) rfl (Zg (Zi rfl Tryz.f73' rfl (by decide) rfl) rfl (Zt rfl rfl ?_))
 refine do_store_t trivial rfl Tryz.k70 rfl rfl rfl (vs := [_]) rfl rfl rfl (Nat.le_of_ble_eq_true rfl) rfl ?_
 refine Zf (ρ' := []) trivial ?_
 refine finO0n [1000]  rfl rfl ?_
 exact ⟨rfl, rfl, rfl⟩
theorem wCheck1_fn (b : Nat) (v : Value) (u : View) :
  FnO Tryz.prog 85 [.pointer (some ⟨b, 0, none⟩)] u [(some b, .bt 75 [.pointer (selfQ b), v])] fun r u' l' => r = .tuple #[] ∧ u = u' ∧ l' = [(some b, .bt 75 [.pointer (selfQ b), v])] := by
 refine FnO.intro [] Tryz.func85 rfl rfl rfl ?_
 intro w0 D hw0
 refine wc_pin 0 1000 _ 0 rfl rfl ?_
 refine Zd (Za (ym rfl rfl (Zg (Zbh rfl rfl) rfl (Zg (Zi rfl Tryz.f73' rfl (by decide) rfl) rfl (Zg (y_load_t rfl Tryz.k70 rfl rfl rfl (vs := [_]) rfl rfl rfl) rfl (Zg (y_ptr_eql_nil (e := 73) rfl (by kernel_rfl) rfl rfl) rfl (Zf (ρ' := [(0, _), (6, _)]) ⟨rfl, rfl, trivial⟩ ?_)))))))
 refine Zc (Zbw rfl (rfl) (Zd (Za (ym rfl rfl (Zg (Zbh rfl rfl) rfl (Zg (Zi rfl Tryz.f73' rfl (by decide) rfl) rfl (Zg (y_load_t rfl Tryz.k70 rfl rfl rfl (vs := [_]) rfl rfl rfl) rfl ?_)))))))
 refine ym rfl rfl (Zg (y_ptr_neq_self (e := 73) rfl (by kernel_rfl) Tryz.k73 rfl rfl) rfl (Zf (ρ' := [(19, _)]) ⟨rfl, trivial⟩ ?_))
 refine Zc (Zbw rfl (rfl) (Zs ?_))
 refine finO0n [1000]  rfl rfl ?_
 exact ⟨rfl, rfl, rfl⟩
theorem wCheck_fn (b : Nat) (q : Option Addr) (hq : QOk b q) (v : Value) (hv : Value.oneCell' v = true) (u : View) :
  FnO Tryz.prog 85 [.pointer (some ⟨b, 0, none⟩)] u [(some b, .bt 75 [.pointer q, v])] fun r u' l' => r = .tuple #[] ∧ u = u' ∧ l' = [(some b, .bt 75 [.pointer (selfQ b), v])] := by
 rcases hq with rfl | rfl
 ·
  exact wCheck0_fn b v hv u
 ·
  exact wCheck1_fn b v u
theorem wWrite_fn (b : Nat) (q : Option Addr) (hq : QOk b q) (ad : Option Addr) (cap : Nat) (l s : Bs) (hl : l.length + s.length ≤ 10000000000) (u : View) :
  FnO Tryz.prog 69 [.pointer (some ⟨b, 0, none⟩), str s] u (wrL b q ad cap l) fun r u' l' => u = u' ∧ ∃ ad' cap', l' = wrL b (selfQ b) ad' cap' (l ++ s) := by
 refine FnO.intro [.tmp 4, .tmp 5] Tryz.func69 rfl rfl rfl ?_
 intro w0 D hw0
 refine wc_pin 0 1000 _ 0 rfl rfl ?_
 refine Zd (Za (ya rfl rfl (ya rfl rfl (Zf (ρ' := [(0, _), (1, _)]) ⟨rfl, rfl, trivial⟩ ?_))))
 refine Zc (Zd (Za (ym rfl rfl (Zt rfl rfl ?_))))
 refine Zam (caps := []) (ρ' := [(0, _), (1, _)]) [1000] [] trivial rfl rfl rfl Tryz.c85 rfl rfl ⟨rfl, rfl, trivial⟩ rfl rfl rfl (FnO.mono (wCheck_fn b q hq (.slice ad l.length cap) rfl u) ?_)
 rintro v u1 l1 hle1 ⟨rfl, rfl, rfl⟩ -
 refine ⟨⟨fun _ h => h, trivial⟩, ?_⟩
 refine Zf (ρ' := [(0, _), (1, _)]) ⟨rfl, rfl, trivial⟩ ?_
 refine Zc (Zd (Za (ym rfl rfl (ym rfl rfl (Zg (Zbh rfl rfl) rfl (Zg (Zi rfl Tryz.f73' rfl (by decide) rfl) rfl (Zg (y_load_t rfl Tryz.k71 rfl rfl rfl (vs := [_]) rfl rfl rfl) rfl ?_)))))))
 refine ym rfl rfl (Zt rfl rfl ?_)
 refine do_append_str 1001 trivial rfl rfl Tryz.s71 (by kernel_rfl) rfl (by kernel_rfl) rfl rfl rfl rfl rfl (by omega) ?_
 intro ad' cap'
 refine Zg (Zbh rfl rfl) rfl (Zg (Zi rfl Tryz.f73' rfl (by decide) rfl) rfl (Zt rfl rfl ?_))
 refine do_store_t trivial rfl Tryz.k71 rfl rfl rfl (vs := [_]) rfl rfl rfl (Nat.le_of_ble_eq_true rfl) rfl ?_
 refine Zf (ρ' := [(1, _)]) ⟨rfl, trivial⟩ ?_
 refine Zc (Zd (Za (ym rfl rfl (Zg (Zaq rfl rfl Tryz.str9 rfl) rfl (ya rfl rfl (ya rfl rfl (Zf (ρ' := [(4, _), (5, _)]) ⟨rfl, rfl, trivial⟩ ?_)))))))
 refine Zc (Zx ?_)
 refine finO2 [1000, 1001] (.tmp rfl) (.tmp rfl) rfl rfl ?_
 exact ⟨rfl, ad', cap', by simp [wrL, bytesC_append]; rfl⟩
theorem wString_fn (b : Nat) (q : Option Addr) (ad : Option Addr) (cap : Nat) (l : Bs) (hl : l.length ≤ 10000000000) (u : View) :
  FnO Tryz.prog 31 [.pointer (some ⟨b, 0, none⟩)] u (wrL b q ad cap l) fun r u' l' => r = str l ∧ u = u' ∧ ∃ o2, l' = [(some b, .bt 75 [.pointer q, .slice ad l.length cap]), (none, o2)] := by
 refine FnO.intro [.tmp 2] Tryz.func31 rfl rfl rfl ?_
 intro w0 D hw0
 refine wc_pin 0 1000 _ 0 rfl rfl ?_
 refine Zd (Za (ya rfl rfl (Zf (ρ' := [(0, _)]) ⟨rfl, trivial⟩ ?_)))
 refine Zc (Zd ?_)
 refine Zbf Tryz.mixed rfl [(1000, _)] ⟨rfl, trivial⟩ ?_
 refine Zar 0 rfl (by kernel_rfl) (Zb (Zbk)) (Zan rfl rfl) rfl ?_
 refine Zar 1 rfl (by kernel_rfl) (Zb (Zbk)) (Zbh rfl rfl) rfl ?_
 refine Zar 2 rfl (by kernel_rfl) (Zb (Zbk)) (Zi rfl Tryz.f73' rfl (by decide) rfl) rfl ?_
 refine Zar 3 rfl (by kernel_rfl) (Zb (Zbk)) (y_load_t rfl Tryz.k71 rfl rfl rfl (vs := [_]) rfl rfl rfl) rfl ?_
 refine Zar 5 rfl (by kernel_rfl) (Zb (Zbk)) (Zan rfl rfl) rfl ?_
 refine Zar 6 rfl (by kernel_rfl) (Zb (Zbk)) (Zbh rfl rfl) rfl ?_
 refine Zar 7 rfl (by kernel_rfl) (Zb (Zbk)) (Zi rfl Tryz.f73' rfl (by decide) rfl) rfl ?_
 refine Zar 8 rfl (by kernel_rfl) (Zb (Zbk)) (y_load_t rfl Tryz.k71 rfl rfl rfl (vs := [_]) rfl rfl rfl) rfl ?_
 refine Zar 9 rfl (by kernel_rfl) (Zb (Zbk)) (Zah rfl rfl Tryz.s71 rfl) rfl ?_
 refine Zbq (i := 4) rfl rfl (by kernel_rfl) ?_
 refine do_sliceData (e := 5) 1001 ⟨rfl, trivial⟩ (by kernel_rfl) rfl rfl rfl ?_
 intro p7 hp7
 refine Zbq (i := 10) rfl rfl (by kernel_rfl) ?_
 refine do_unsafeString 1001 ⟨rfl, trivial⟩ rfl rfl (by kernel_rfl) (by kernel_rfl) rfl rfl rfl rfl hp7 rfl (by omega) rfl ?_
 refine Zar 11 rfl (by kernel_rfl) (Zb (Zbk)) (y_assign rfl rfl) rfl ?_
 refine Zbm (by kernel_rfl) (ρ' := [(2, _)]) ⟨rfl, trivial⟩ ?_
 refine Zc (Zx ?_)
 refine finO1 [1000, 1001] (.tmp rfl) rfl rfl ?_
 exact ⟨rfl, rfl, _, rfl⟩
theorem itoaI_fn (z : Int) (hz : IntOk z) (u : View) (ht : TabU u) : FnP Tryz.prog 70 [.int .i64 z] u fun v _ => v = str (decI z) := by
 have e : decI z = Lib.itoa z := by
  unfold decI Lib.itoa dec
  split
  ·
   rfl
  ·
   rw [show z.natAbs = z.toNat by omega]
 rw [e]
 refine FnP.of_calls fun w hA => (Tryz.strconv_Itoa z hz.1 hz.2 w (tabIs_of ht hA)).mono ?_
 rintro e w' ⟨rfl, k, os, rfl⟩
 exact ⟨_, rfl, rfl, grow_below w k os⟩
theorem eN_len (z : Int) : (eN z).length = (decI z).length + 1 := by simp [eN]
theorem wNumber_fn (b : Nat) (q : Option Addr) (hq : QOk b q) (ad : Option Addr) (cap : Nat) (l : Bs) (z : Int) (hz : IntOk z) (hl : l.length + (eN z).length ≤ 10000000000) (u : View) (ht : TabU u) :
  FnO Tryz.prog 48 [.pointer (some ⟨b, 0, none⟩), .int .i64 z] u (wrL b q ad cap l) fun r u' l' => r = .tuple #[] ∧ u = u' ∧ ∃ ad' cap', l' = wrL b (selfQ b) ad' cap' (l ++ eN z) := by
 have hln := eN_len z
 refine FnO.intro [] Tryz.func48 rfl rfl rfl ?_
 intro w0 D hw0
 refine wc_pin 0 1000 _ 0 rfl rfl ?_
 refine Zbf Tryz.mixed rfl [] trivial ?_
 refine Zar 0 rfl (by kernel_rfl) (Zbk) (Zan rfl rfl) rfl ?_
 refine Zar 1 rfl (by kernel_rfl) (Zbk) (Zbh rfl rfl) rfl ?_
 refine Zar 2 rfl (by kernel_rfl) (Zbk) (Zi rfl Tryz.f75' rfl (by decide) rfl) rfl ?_
 refine Zar 3 rfl (by kernel_rfl) (Zbk) (Zan rfl rfl) rfl ?_
 refine Zbq (i := 4) rfl rfl (by kernel_rfl) ?_
 refine Zu (caps := []) trivial rfl rfl Tryz.c70 rfl (FnP.mono (itoaI_fn z hz u ht) ?_)
 rintro v u1 hle1 rfl
 refine Zar 5 rfl (by kernel_rfl) (Zbk) (y_str_add (m := [59]) rfl rfl rfl (by simp only [List.length_cons, List.length_nil]; omega)) rfl ?_
 refine Zbq (i := 6) rfl rfl (by kernel_rfl) ?_
 refine Zam (caps := []) (ρ' := []) [1000, 1001] [] trivial rfl rfl rfl Tryz.c69 rfl rfl trivial rfl rfl rfl (FnO.mono (wWrite_fn b q hq ad cap l (decI z ++ [59]) (by simp only [List.length_append, List.length_cons, List.length_nil]; omega) u) ?_)
 rintro v u1 l1 hle1 ⟨rfl, a1, c1, rfl⟩ -
 refine ⟨⟨fun _ h => h, fun _ h => h, trivial⟩, ?_⟩
 refine Zbm (by kernel_rfl) (ρ' := []) trivial ?_
 refine finO0n [1000, 1001]  rfl rfl ?_
 exact ⟨rfl, rfl, a1, c1, rfl⟩
theorem wText_fn (b : Nat) (q : Option Addr) (hq : QOk b q) (ad : Option Addr) (cap : Nat) (l s : Bs) (hl : l.length + (eT s).length ≤ 10000000000) (u : View) (ht : TabU u) :
  FnO Tryz.prog 49 [.pointer (some ⟨b, 0, none⟩), str s] u (wrL b q ad cap l) fun r u' l' => r = .tuple #[] ∧ u = u' ∧ ∃ ad' cap', l' = wrL b (selfQ b) ad' cap' (l ++ eT s) := by
 have hln : (eT s).length = (eN s.length).length + s.length := by simp [eT]
 refine FnO.intro [] Tryz.func49 rfl rfl rfl ?_
 intro w0 D hw0
 refine wc_pin 0 1000 _ 0 rfl rfl ?_
 refine Zd (Za (ym rfl rfl (ym rfl rfl (Zg (Zaq rfl rfl Tryz.str9 rfl) rfl (Zt rfl rfl ?_)))))
 refine Zam (caps := []) (ρ' := [(0, _), (1, _)]) [1000, 1001] [] trivial rfl rfl rfl Tryz.c48 rfl rfl ⟨rfl, rfl, trivial⟩ rfl rfl rfl (FnO.mono (wNumber_fn b q hq ad cap l s.length ⟨by omega, by omega⟩ (by omega) u ht) ?_)
 rintro v u1 l1 hle1 ⟨rfl, rfl, a1, c1, rfl⟩ -
 refine ⟨⟨fun _ h => h, fun _ h => h, trivial⟩, ?_⟩
 refine Zf (ρ' := [(0, _), (1, _)]) ⟨rfl, rfl, trivial⟩ ?_
 refine Zc (Za (ym rfl rfl (Zg (Zbh rfl rfl) rfl (Zg (Zi rfl Tryz.f75' rfl (by decide) rfl) rfl (ym rfl rfl (Zt rfl rfl ?_))))))
 refine Zam (caps := []) (ρ' := []) [1000, 1001] [] trivial rfl rfl rfl Tryz.c69 rfl rfl trivial rfl rfl rfl (FnO.mono (wWrite_fn b (selfQ b) (.inr rfl) a1 c1 (l ++ eN s.length) s (by simp only [List.length_append]; omega) u) ?_)
 rintro v u1 l1 hle1 ⟨rfl, a2, c2, rfl⟩ -
 refine ⟨⟨fun _ h => h, fun _ h => h, trivial⟩, ?_⟩
 refine Zf (ρ' := []) trivial ?_
 refine finO0n [1000, 1001]  rfl rfl ?_
 exact ⟨rfl, rfl, a2, c2, by simp only [eT, List.append_assoc]⟩
theorem decLen (k : Nat) : ∀ n, n < 10 ^ (k + 1) → (dec n).length ≤ k + 1 := by
 induction k with
 | zero => intro n h; rw [dec_small (by simpa using h)]; simp
 | succ k ih =>
  intro n h
  by_cases h9 : n < 10
  ·
   rw [dec_small h9]; simp
  ·
   rw [dec_big h9]
   have := ih (n / 10) (by rw [Nat.pow_succ] at h; omega)
   simp only [List.length_append, List.length_cons, List.length_nil]; omega
theorem eN_le {z : Int} (h : IntOk z) : (eN z).length ≤ 22 := by
 have h1 := decLen 18 z.natAbs (by obtain ⟨h1, h2⟩ := h; show z.natAbs < 10000000000000000000; omega)
 rw [eN_len]
 unfold decI
 split
 ·
  simp only [List.length_cons]; omega
 ·
  omega
theorem eNn_le {n : Nat} (h : n ≤ 140737488351232) : (eN (n : Int)).length ≤ 22 := eN_le ⟨by omega, by omega⟩
theorem eT_le {s : Bs} (h : s.length ≤ 140737488351232) : (eT s).length ≤ 22 + s.length := by
 have := eNn_le h
 simp only [eT, List.length_append]; omega
theorem flat_bound {α : Type} (e : α → Bs) (f : α → Nat) (xs : List α) (h : ∀ x ∈ xs, (e x).length ≤ f x) : (xs.flatMap e).length ≤ (xs.map f).sum := by
 induction xs with
 | nil => simp
 | cons x xs ih =>
  have h1 := h x (by simp)
  have h2 := ih fun y hy => h y (List.mem_cons_of_mem _ hy)
  simp only [List.flatMap_cons, List.length_append, List.map_cons, List.sum_cons]; omega
theorem sum_add {α : Type} (c : Nat) (f : α → Nat) (xs : List α) : (xs.map fun x => c + f x).sum = c * xs.length + (xs.map f).sum := by
 induction xs with
 | nil => simp
 | cons x xs ih => simp only [List.map_cons, List.sum_cons, ih, List.length_cons, Nat.mul_add]; omega
theorem sumLe {α : Type} (c : Nat) (f : α → Nat) (xs : List α) (h : ∀ x ∈ xs, f x ≤ c) : (xs.map f).sum ≤ c * xs.length := by
 induction xs with
 | nil => simp
 | cons x xs ih =>
  have h1 := h x (by simp)
  have h2 := ih fun y hy => h y (List.mem_cons_of_mem _ hy)
  simp only [List.map_cons, List.sum_cons, List.length_cons, Nat.mul_add]; omega
theorem eA_le {a : DAttr} (ha : AttrOk a) (h1 : a.classes.length ≤ 40) (h2 : a.pairs.length ≤ 40) (h3 : longN a ≤ 600) : (eA a).length ≤ 12000 := by
 obtain ⟨k1, ⟨k2, k3⟩, k4, k5⟩ := ha
 have e1 := eT_le k1
 have e2 := eNn_le k2
 have e3 := eNn_le k4
 have f1 := flat_bound eT (fun s => 22 + s.length) a.classes fun s hs => eT_le (k3 s hs)
 have f2 := flat_bound eP (fun p => 44 + (p.1.length + p.2.length)) a.pairs fun p hp => by
  have g1 := eT_le (k5 p hp).1
  have g2 := eT_le (k5 p hp).2
  simp only [eP, List.length_append]; omega
 rw [sum_add 22 List.length] at f1
 rw [sum_add 44 fun p : Bs × Bs => p.1.length + p.2.length] at f2
 unfold longN at h3
 simp only [eA, eLs, List.length_append]
 omega
theorem eLsT_le {l : List Bs} (h : StrOk l) (h1 : l.length ≤ 9) (h2 : ∀ s ∈ l, s.length ≤ 50000) : (eLs eT l).length ≤ 450300 := by
 have e1 := eNn_le h.1
 have f1 := flat_bound eT (fun s => 22 + s.length) l fun s hs => eT_le (h.2 s hs)
 have f2 := sumLe 50022 (fun s : Bs => 22 + s.length) l fun s hs => by have := h2 s hs; omega
 simp only [eLs, List.length_append]
 omega
theorem eLsC_le {l : List DCite} (h : CiOk l) (h1 : l.length ≤ 9) (h2 : ∀ c ∈ l, c.key.length + c.pre.length + c.suf.length ≤ 50000) : (eLs eC l).length ≤ 450900 := by
 have e1 := eNn_le h.1
 have f1 := flat_bound eC (fun c => 88 + (c.key.length + c.pre.length + c.suf.length)) l fun c hc => by
  obtain ⟨g1, g2, g3⟩ := h.2 c hc
  have e1 := eT_le g1
  have e2 := eT_le g2
  have e3 := eT_le g3
  have e4 : (eN (if c.bare = true then 1 else 0)).length ≤ 22 := eN_le (by split <;> exact ⟨by omega, by omega⟩)
  simp only [eC, List.length_append]; omega
 have f2 := sumLe 50088 (fun c : DCite => 88 + (c.key.length + c.pre.length + c.suf.length)) l fun c hc => by have := h2 c hc; omega
 simp only [eLs, List.length_append]
 omega
mutual
theorem eI_le {u : View} : ∀ (x : Inl) (cs : List Value), InlC u x cs → smI1 x → (eI x).length ≤ 1100000 * sz1 x
 | .mk k t d ti a args cites kids, cs, h, hs => by
  unfold InlC at h
  obtain ⟨ca, va, vc, vk, ks, h1, h2, h3, h4, h5, h6, o1, o2, o3, o4, o5, o6, o7, o8⟩ := h
  unfold smI1 at hs
  obtain ⟨⟨m1, m2, m3, m4, m5, m6, m7, m8⟩, hk⟩ := hs
  have ih := eIs_le kids ks h6 hk
  have e1 := eN_le o1
  have e2 := eT_le o2
  have e3 := eT_le o3
  have e4 := eT_le o4
  have e5 := eA_le o5 m2 m3 m4
  have e6 := eLsT_le o6 m5 m7
  have e7 := eLsC_le o7 m6 m8
  have e8 := eNn_le o8
  simp only [eI, sz1, List.length_append]
  omega
theorem eIs_le {u : View} : ∀ (xs : List Inl) (cs : List Value), InlsC u xs cs → smI xs → (eIs xs).length ≤ 1100000 * szI xs
 | [], cs, h, hs => by simp [eIs]
 | x :: xs, cs, h, hs => by
  unfold InlsC at h
  obtain ⟨c, r, h1, h2, h3⟩ := h
  unfold smI at hs
  have e1 := eI_le x c h2 hs.1
  have e2 := eIs_le xs r h3 hs.2
  simp only [eIs, szI, List.length_append]
  omega
end
theorem eL_le {u : View} {v : Value} {xs : List Inl} (h : InlS u v xs) (hs : smI xs) (hl : xs.length ≤ 140737488351232) : (eL xs).length ≤ 22 + 1100000 * szI xs := by
 obtain ⟨cs, h1, h2⟩ := h
 have e1 := eNn_le hl
 have e2 := eIs_le xs cs h2 hs
 simp only [eL, List.length_append]
 omega
mutual
theorem eB_le {u : View} : ∀ (x : Blk) (cs : List Value), BlkC u x cs → smB1 x → (eB x).length ≤ 1100000 * szb x
 | .mk k lv inf t d ti a line kids, cs, h, hs => by
  unfold BlkC at h
  obtain ⟨ca, vl, vk, ls, ks, h1, h2, h3, h4, h5, h6, o1, o2, o3, o4, o5, o6, o7, o8, o9⟩ := h
  unfold smB1 at hs
  obtain ⟨m1, m2, m3, m4, m5, m6⟩ := hs
  have ih := eBs_le kids ks h6 m6
  have e0 := eL_le ⟨ls, h3, h4⟩ m5 o8
  have e1 := eN_le o1
  have e2 := eN_le o2
  have e3 := eT_le o3
  have e4 := eT_le o4
  have e5 := eT_le o5
  have e6 := eT_le o6
  have e7 := eA_le o7 m2 m3 m4
  have e8 := eNn_le o9
  simp only [eB, szb, List.length_append]
  omega
theorem eBs_le {u : View} : ∀ (xs : List Blk) (cs : List Value), BlksC u xs cs → smB xs → (eBs xs).length ≤ 1100000 * szB xs
 | [], cs, h, hs => by simp [eBs]
 | x :: xs, cs, h, hs => by
  unfold BlksC at h
  obtain ⟨c, r, h1, h2, h3⟩ := h
  unfold smB at hs
  have e1 := eB_le x c h2 hs.1
  have e2 := eBs_le xs r h3 hs.2
  simp only [eBs, szB, List.length_append]
  omega
end
def len1 : Bs → Nat
 | [] => 0
 | c :: s => lead (sp c) s + 1
theorem runs_step {s : Bs} (h : s ≠ []) : runs s = s.take (len1 s) :: runs (s.drop (len1 s)) := by
 cases s with
 | nil => exact absurd rfl h
 | cons c s => rw [runs]; simp [len1]
theorem lead_of (b : Bool) : ∀ (t : Bs) (j : Nat), j ≤ t.length → (∀ i c, i < j → t[i]? = some c → sp c = b) → (∀ c, t[j]? = some c → sp c ≠ b) → lead b t = j
 | [], j, hj, _, _ => by simp at hj; subst hj; rfl
 | c :: t, 0, hj, _, he => by
  have := he c rfl
  simp only [lead, if_neg this]
 | c :: t, j + 1, hj, ha, he => by
  have h0 := ha 0 c (by omega) rfl
  have ih := lead_of b t j (by simpa using hj) (fun i d hi hd => ha (i + 1) d (by omega) (by simpa using hd)) (fun d hd => he d (by simpa using hd))
  simp only [lead, if_pos h0, ih]
theorem len1_of {t : Bs} {b : Bool} {j : Nat} (h1 : 1 ≤ j) (hj : j ≤ t.length) (ha : ∀ i c, i < j → t[i]? = some c → sp c = b) (he : ∀ c, t[j]? = some c → sp c ≠ b) : len1 t = j := by
 cases t with
 | nil => simp at hj; omega
 | cons c t =>
  obtain ⟨j, rfl⟩ : ∃ k, j = k + 1 := ⟨j - 1, by omega⟩
  have h0 := ha 0 c (by omega) rfl
  subst h0
  simp only [len1]
  rw [lead_of (sp c) t j (by simpa using hj) (fun i d hi hd => ha (i + 1) d (by omega) (by simpa using hd)) (fun d hd => he d (by simpa using hd))]
theorem len1_le : ∀ t : Bs, len1 t ≤ t.length
 | [] => Nat.le_refl _
 | c :: t => by
  have := lead_le (sp c) t
  simp only [len1, List.length_cons]; omega
theorem len1_pos {t : Bs} (h : t ≠ []) : 1 ≤ len1 t := by
 cases t with
 | nil => exact absurd rfl h
 | cons c t => simp [len1]
def mrg (ka kb : Int → Int) (L : List Chg) (c : Chg) : List Chg :=
 match L.getLast? with
 | some p => if p.kind = 2 ∧ c.kind = 3 ∧ ka p.src = kb c.dst then L.dropLast ++ [⟨4, p.src, c.dst⟩] else L ++ [c]
 | none => L ++ [c]
def mrgL (ka kb : Int → Int) (l : List Chg) : List Chg := l.foldl (mrg ka kb) []
theorem mrgL_take (ka kb : Int → Int) {l : List Chg} {i : Nat} {c : Chg} (h : l[i]? = some c) : mrgL ka kb (l.take (i + 1)) = mrg ka kb (mrgL ka kb (l.take i)) c := by
 obtain ⟨hlt, rfl⟩ := List.getElem?_eq_some_iff.1 h
 rw [List.take_succ_eq_append_getElem hlt]
 unfold mrgL
 rw [List.foldl_append]
 rfl
theorem mrg_len (ka kb : Int → Int) (L : List Chg) (c : Chg) : (mrg ka kb L c).length ≤ L.length + 1 := by
 unfold mrg
 split
 ·
  split
  ·
   simp only [List.length_append, List.length_dropLast, List.length_cons, List.length_nil]; omega
  ·
   simp
 ·
  simp
theorem mrgL_len (ka kb : Int → Int) (l : List Chg) (i : Nat) : (mrgL ka kb (l.take i)).length ≤ i := by
 induction i with
 | zero => simp [mrgL]
 | succ i ih =>
  by_cases hi : i < l.length
  ·
   rw [mrgL_take ka kb (List.getElem?_eq_getElem hi)]
   have := mrg_len ka kb (mrgL ka kb (l.take i)) l[i]
   omega
  ·
   rw [List.take_of_length_le (by omega)]
   rw [List.take_of_length_le (by omega)] at ih
   omega
def okC (n m : Nat) (c : Chg) : Prop := (c.kind = 2 → 0 ≤ c.src ∧ c.src < n ∧ c.dst = -1) ∧ (c.kind = 3 → 0 ≤ c.dst ∧ c.dst < m)
theorem gone_ok {n m i x : Nat} (h : x ≤ n) : ∀ c ∈ goneL i x, okC n m c := by
 intro c hc
 simp only [goneL, List.mem_map, List.mem_range'_1] at hc
 obtain ⟨j, ⟨h1, h2⟩, rfl⟩ := hc
 exact ⟨fun _ => ⟨by simp, by simp; omega, rfl⟩, fun h => by simp at h⟩
theorem new_ok {n m k y : Nat} (h : y ≤ m) : ∀ c ∈ newL k y, okC n m c := by
 intro c hc
 simp only [newL, List.mem_map, List.mem_range'_1] at hc
 obtain ⟨j, ⟨h1, h2⟩, rfl⟩ := hc
 exact ⟨fun h => by simp at h, fun _ => ⟨by simp, by simp; omega⟩⟩
theorem steps_ok {same : Nat → Nat → Bool} {n m : Nat} : ∀ (w : List (Option Nat)) (x i k : Nat), Valid same m w x k → x + w.length = n → ∀ c ∈ stepsOf n m w x i k, okC n m c
 | [], x, i, k, _, hx, c, hc => by
  simp only [stepsOf, List.mem_append] at hc
  rcases hc with hc | hc
  ·
   exact gone_ok (Nat.le_refl _) c hc
  ·
   exact new_ok (Nat.le_refl _) c hc
 | none :: w, x, i, k, hv, hx, c, hc => by
  simp only [stepsOf] at hc
  exact steps_ok w (x + 1) i k (by simpa [Valid] using hv) (by simp at hx; omega) c hc
 | some y :: w, x, i, k, hv, hx, c, hc => by
  simp only [stepsOf, List.mem_append, List.mem_cons] at hc
  simp only [Valid] at hv
  simp only [List.length_cons] at hx
  rcases hc with (hc | hc) | hc | hc
  ·
   exact gone_ok (by omega) c hc
  ·
   exact new_ok (by omega) c hc
  ·
   subst hc; exact ⟨fun h => by simp [sameC] at h, fun h => by simp [sameC] at h⟩
  ·
   exact steps_ok w (x + 1) (x + 1) (y + 1) hv.2.2.2 (by omega) c hc
theorem textSteps_ok (same : Nat → Nat → Bool) (n m : Nat) : ∀ c ∈ textSteps same n m, okC n m c :=
 steps_ok (same := same) _ 0 0 0 (rows_valid same n m n 0 0 _) (by rw [mat, rows_len]; omega)
theorem mrg_ok {ka kb : Int → Int} {n m : Nat} {L : List Chg} {c : Chg} (hL : ∀ p ∈ L, okC n m p) (hc : okC n m c) : ∀ p ∈ mrg ka kb L c, okC n m p := by
 intro p hp
 unfold mrg at hp
 split at hp
 ·
  split at hp
  ·
   rcases List.mem_append.1 hp with hp | hp
   ·
    exact hL p ((List.dropLast_sublist L).subset hp)
   ·
    rw [List.mem_singleton] at hp; subst hp; exact ⟨fun h => by simp at h, fun h => by simp at h⟩
  ·
   rcases List.mem_append.1 hp with hp | hp
   ·
    exact hL p hp
   ·
    rw [List.mem_singleton] at hp; subst hp; exact hc
 ·
  rcases List.mem_append.1 hp with hp | hp
  ·
   exact hL p hp
  ·
   rw [List.mem_singleton] at hp; subst hp; exact hc
theorem mrgL_ok {ka kb : Int → Int} {n m : Nat} {l : List Chg} (hl : ∀ p ∈ l, okC n m p) : ∀ i, ∀ p ∈ mrgL ka kb (l.take i), okC n m p := by
 intro i
 induction i with
 | zero => simp [mrgL]
 | succ i ih =>
  by_cases hi : i < l.length
  ·
   rw [mrgL_take ka kb (List.getElem?_eq_getElem hi)]
   exact mrg_ok ih (hl _ (List.getElem_mem hi))
  ·
   rw [List.take_of_length_le (by omega)]
   rw [List.take_of_length_le (by omega)] at ih
   exact ih
set_option linter.unusedSimpArgs false
set_option linter.unusedVariables false
set_option maxRecDepth 4000
theorem flat_snoc {α : Type} (e : α → Bs) {xs : List α} {i : Nat} {x : α} (h : xs[i]? = some x) : (xs.take (i + 1)).flatMap e = (xs.take i).flatMap e ++ e x := by
 obtain ⟨hlt, rfl⟩ := List.getElem?_eq_some_iff.1 h
 rw [List.take_succ_eq_append_getElem hlt, List.flatMap_append]
 simp
theorem flat_le {α : Type} (e : α → Bs) (xs : List α) (i : Nat) : ((xs.take i).flatMap e).length ≤ (xs.flatMap e).length := by
 conv => rhs; rw [← List.take_append_drop i xs]
 rw [List.flatMap_append, List.length_append]
 omega
theorem eIs_flat : ∀ xs : List Inl, eIs xs = xs.flatMap eI
 | [] => by simp [eIs]
 | x :: xs => by rw [eIs, eIs_flat xs, List.flatMap_cons]
theorem eBs_flat : ∀ xs : List Blk, eBs xs = xs.flatMap eB
 | [] => by simp [eBs]
 | x :: xs => by rw [eBs, eBs_flat xs, List.flatMap_cons]
theorem pairsC_cut2 {l : List (Bs × Bs)} {t : Nat} {p : Bs × Bs} (h : l[t]? = some p) : cut (pairsC l) (t * 2) 2 = [str p.1, str p.2] := cut_pairsC h
abbrev wrS (b : Nat) (ad : Option Addr) (cap : Nat) (l : Bs) : List PO := wrL b (selfQ b) ad cap l
set_option maxHeartbeats 4000000 in
theorem wAttr_fn (b : Nat) (ad : Option Addr) (cap : Nat) (l : Bs) (a : DAttr) (vc vp : Value) (u : View) (hA : AttrOk a) (hl : l.length + (eA a).length ≤ 10000000000) (ht : TabU u) (hc : StrS u vc a.classes) (hp : PrS u vp a.pairs) :
  FnO Tryz.prog 50 [.pointer (some ⟨b, 0, none⟩), .agg #[str a.id, vc, vp]] u (wrS b ad cap l) fun r u' l' => r = .tuple #[] ∧ u = u' ∧ ∃ ad' cap', l' = wrS b ad' cap' (l ++ eA a) := by
 obtain ⟨a1, a2, a3⟩ := hA
 obtain ⟨adc, capc, rfl, hcs⟩ := hc
 obtain ⟨adp, capp, rfl, hps⟩ := hp
 simp only [eA, eLs, List.length_append] at hl
 have hcl : a.classes.length ≤ 140737488351232 := a2.1
 have hpl : a.pairs.length ≤ 140737488351232 := a3.1
 refine FnO.intro [] Tryz.func50 rfl rfl rfl ?_
 intro w0 D hw0
 refine wc_pin 0 1000 _ 0 rfl rfl ?_
 refine Zd (Za (Zt rfl rfl ?_))
 refine do_box trivial rfl (cs := [_, _, _]) rfl rfl rfl rfl ?_
 refine Zf (ρ' := [(0, _), (3, _)]) ⟨rfl, rfl, trivial⟩ ?_
 refine Zc (Zd (Za (ym rfl rfl (Zg (Zi rfl Tryz.f27' rfl (by decide) rfl) rfl (Zg (Zl rfl Tryz.k9 rfl rfl rfl (vs := [_]) rfl rfl rfl) rfl (Zt rfl rfl ?_))))))
 refine Zam (caps := []) (ρ' := [(0, _), (3, _)]) [1000, 1001] [] trivial rfl rfl rfl Tryz.c49 rfl rfl ⟨rfl, rfl, trivial⟩ rfl rfl rfl (FnO.mono (wText_fn b (selfQ b) (.inr rfl) ad cap l a.id (by omega) u ht) ?_)
 rintro v u1 l1 hle1 ⟨rfl, rfl, b1, c1, rfl⟩ -
 refine ⟨⟨fun _ h => h, fun _ h => h, trivial⟩, ?_⟩
 refine Zf (ρ' := [(0, _), (3, _)]) ⟨rfl, rfl, trivial⟩ ?_
 refine Zc (Zd (Za (ym rfl rfl (Zg (Zi rfl Tryz.f27' rfl (by decide) rfl) rfl (Zg (Zl rfl Tryz.k24 rfl rfl rfl (vs := [_]) rfl rfl rfl) rfl (Zg (Zah rfl rfl Tryz.s24 rfl) rfl (Zt rfl rfl ?_)))))))
 refine Zam (caps := []) (ρ' := [(0, _), (3, _)]) [1000, 1001] [] trivial rfl rfl rfl Tryz.c48 rfl rfl ⟨rfl, rfl, trivial⟩ rfl rfl rfl (FnO.mono (wNumber_fn b (selfQ b) (.inr rfl) b1 c1 (l ++ eT a.id) a.classes.length ⟨by have := a2.1; omega, by have := a2.1; omega⟩ (by simp only [List.length_append]; omega) u ht) ?_)
 rintro v u1 l1 hle1 ⟨rfl, rfl, b2, c2, rfl⟩ -
 refine ⟨⟨fun _ h => h, fun _ h => h, trivial⟩, ?_⟩
 obtain ⟨l1, hl1⟩ : ∃ l1, l1 = l ++ eT a.id ++ eN a.classes.length := ⟨_, rfl⟩
 have hl1n : l1.length = l.length + (eT a.id).length + (eN a.classes.length).length := by rw [hl1]; simp only [List.length_append]
 rw [← hl1]
 refine Zf (ρ' := [(0, _), (3, _)]) ⟨rfl, rfl, trivial⟩ ?_
 refine Zc (Zd (Zd (Za (Zg (Zi rfl Tryz.f27' rfl (by decide) rfl) rfl (Zg (Zl rfl Tryz.k24 rfl rfl rfl (vs := [_]) rfl rfl rfl) rfl (Zg (Zah rfl rfl Tryz.s24 rfl) rfl (ym rfl rfl (Zf (ρ' := [(0, _), (3, _), (18, _), (19, _), (20, _)]) ⟨rfl, rfl, rfl, rfl, rfl, trivial⟩ ?_))))))))
 refine Zc (Zv ?_)
 refine Zas (fun m_0 ρ σ u' => ∃ i : Nat, i + m_0 = a.classes.length ∧ VLe u u' ∧ ∃ (ac : Option Addr) (cc : Nat), σ = [(3, (none, .box [str a.id, .slice adc a.classes.length capc, .slice adp a.pairs.length capp])), (1000, (some b, .bt 75 [.pointer (selfQ b), .slice ac (l1 ++ (a.classes.take i).flatMap eT).length cc])), (1001, (none, .rwv (.slice ac (l1 ++ (a.classes.take i).flatMap eT).length cc) 5 1 (l1 ++ (a.classes.take i).flatMap eT).length (bytesC (l1 ++ (a.classes.take i).flatMap eT))))] ∧ ρ = [(0, .p 1000 0), (3, .p 3 0), (18, .v (.slice adc a.classes.length capc)), (19, .v (.int .i64 a.classes.length)), (20, .v (.int .i64 i))] ∧ (u = u')) (a.classes.length) ?_ ?_
 ·
  refine ⟨[(0, _), (3, _), (18, _), (19, _), (20, _)], [(3, _), (1000, _), (1001, _)], ⟨rfl, rfl, rfl, rfl, rfl, trivial⟩, ⟨rfl, rfl, rfl, trivial⟩, 0, by omega, VLe.refl _, b2, c2, (by simp), rfl, ?_⟩
  rfl
 ·
  rintro m ρ σ u' ⟨i, hi4, hle4, ac, cc, rfl, rfl, rfl⟩
  refine Zd (Za (Zg (Zaz rfl rfl rfl) rfl (Zf (ρ' := [(0, _), (3, _), (18, _), (19, _), (20, _), (21, _)]) ⟨rfl, rfl, rfl, rfl, rfl, rfl, trivial⟩ ?_)))
  refine Zc (Zd ?_)
  refine Zr rfl (fun hb4 => ?_) (fun hb4 => ?_)
  ·
   have h4 := of_decide_eq_true hb4
   obtain ⟨s, hs⟩ : ∃ s, a.classes[i]? = some s := ⟨_, List.getElem?_eq_getElem (by omega)⟩
   have hcut := strsC_cut hs
   have hsn := flat_snoc eT hs
   have hle := flat_le eT a.classes (i + 1)
   rw [hsn, List.length_append] at hle
   have hsl := a2.2 s (List.mem_of_getElem? hs)
   refine Zs (Zc (Zd (Zv (Zd (Za (Zg (Zad rfl Tryz.s24 rfl rfl hcs rfl (by omega)) rfl (Zg (Zac rfl Tryz.k9 rfl hcs (by omega) hcut (vs := [_]) rfl rfl rfl rfl) rfl ?_)))))))
   refine ya rfl rfl (Zf (ρ' := [(0, _), (3, _), (5, _), (18, _), (19, _), (20, _)]) ⟨rfl, rfl, rfl, rfl, rfl, rfl, trivial⟩ ?_)
   refine Zc (Za (ym rfl rfl (ym rfl rfl (Zt rfl rfl ?_))))
   refine Zam (caps := []) (ρ' := [(0, _), (3, _), (18, _), (19, _), (20, _)]) [1000, 1001] [] trivial rfl rfl rfl Tryz.c49 rfl rfl ⟨rfl, rfl, rfl, rfl, rfl, trivial⟩ rfl rfl rfl (FnO.mono (wText_fn b (selfQ b) (.inr rfl) ac cc (l1 ++ (a.classes.take i).flatMap eT) s (by simp only [List.length_append]; omega) u ht) ?_)
   rintro v u1 l1 hle1 ⟨rfl, rfl, b3, c3, rfl⟩ -
   refine ⟨⟨fun _ h => h, fun _ h => h, trivial⟩, ?_⟩
   refine Zf (ρ' := [(0, _), (3, _), (18, _), (19, _), (20, _)]) ⟨rfl, rfl, rfl, rfl, rfl, trivial⟩ ?_
   refine Zaj (Zc (Za (Zg (Zap rfl rfl rfl (Zn (by omega))) rfl ?_)))
   refine ym rfl rfl (Zf (ρ' := [(0, _), (3, _), (18, _), (19, _), (20, _)]) ⟨rfl, rfl, rfl, rfl, rfl, trivial⟩ ?_)
   refine Zae ?_
   refine ⟨m - 1, [(0, _), (3, _), (18, _), (19, _), (20, _)], [(3, _), (1000, _), (1001, _)], by omega, ⟨rfl, rfl, rfl, rfl, rfl, trivial⟩, ⟨rfl, rfl, rfl, trivial⟩, i + 1, by omega, hle4, b3, c3, (by rw [hsn, ← List.append_assoc]), (by first | rfl | simp), ?_⟩
   rfl
  ·
   have h4 := of_decide_eq_false hb4
   rw [List.take_of_length_le (by omega)]
   refine Zao ?_
   refine Zm (Zm ?_)
   refine Zaa ?_
   refine Zc (Zd (Za (ym rfl rfl (Zg (Zi rfl Tryz.f27' rfl (by decide) rfl) rfl (Zg (Zl rfl Tryz.k25 rfl rfl rfl (vs := [_]) rfl rfl rfl) rfl (Zg (Zah rfl rfl Tryz.s25 rfl) rfl (Zt rfl rfl ?_)))))))
   refine Zam (caps := []) (ρ' := [(0, _), (3, _)]) [1000, 1001] [] trivial rfl rfl rfl Tryz.c48 rfl rfl ⟨rfl, rfl, trivial⟩ rfl rfl rfl (FnO.mono (wNumber_fn b (selfQ b) (.inr rfl) ac cc (l1 ++ a.classes.flatMap eT) a.pairs.length ⟨by have := a3.1; omega, by have := a3.1; omega⟩ (by simp only [List.length_append]; omega) u ht) ?_)
   rintro v u1 l1 hle1 ⟨rfl, rfl, b4, c4, rfl⟩ -
   refine ⟨⟨fun _ h => h, fun _ h => h, trivial⟩, ?_⟩
   obtain ⟨l2, hl2⟩ : ∃ l2, l2 = l1 ++ a.classes.flatMap eT ++ eN a.pairs.length := ⟨_, rfl⟩
   have hl2n : l2.length = l1.length + (a.classes.flatMap eT).length + (eN a.pairs.length).length := by rw [hl2]; simp only [List.length_append]
   rw [← hl2]
   refine Zf (ρ' := [(0, _), (3, _)]) ⟨rfl, rfl, trivial⟩ ?_
   refine Zc (Zd (Za (Zg (Zi rfl Tryz.f27' rfl (by decide) rfl) rfl (Zg (Zl rfl Tryz.k25 rfl rfl rfl (vs := [_]) rfl rfl rfl) rfl (Zg (Zah rfl rfl Tryz.s25 rfl) rfl (ym rfl rfl (Zf (ρ' := [(0, _), (34, _), (35, _), (36, _)]) ⟨rfl, rfl, rfl, rfl, trivial⟩ ?_)))))))
   refine Zc (Zv ?_)
   refine Zas (fun m_0 ρ σ u' => ∃ j : Nat, j + m_0 = a.pairs.length ∧ VLe u u' ∧ ∃ (ae : Option Addr) (ce : Nat), σ = [(1000, (some b, .bt 75 [.pointer (selfQ b), .slice ae (l2 ++ (a.pairs.take j).flatMap eP).length ce])), (1001, (none, .rwv (.slice ae (l2 ++ (a.pairs.take j).flatMap eP).length ce) 5 1 (l2 ++ (a.pairs.take j).flatMap eP).length (bytesC (l2 ++ (a.pairs.take j).flatMap eP))))] ∧ ρ = [(0, .p 1000 0), (34, .v (.slice adp a.pairs.length capp)), (35, .v (.int .i64 a.pairs.length)), (36, .v (.int .i64 j))] ∧ (u = u')) (a.pairs.length) ?_ ?_
   ·
    refine ⟨[(0, _), (34, _), (35, _), (36, _)], [(1000, _), (1001, _)], ⟨rfl, rfl, rfl, rfl, trivial⟩, ⟨rfl, rfl, trivial⟩, 0, by omega, VLe.refl _, b4, c4, (by simp), rfl, ?_⟩
    rfl
   ·
    rintro mj ρ σ u' ⟨j, hi10, hle10, ae, ce, rfl, rfl, rfl⟩
    refine Zd (Za (Zg (Zaz rfl rfl rfl) rfl (Zf (ρ' := [(0, _), (34, _), (35, _), (36, _), (37, _)]) ⟨rfl, rfl, rfl, rfl, rfl, trivial⟩ ?_)))
    refine Zc (Zd ?_)
    refine Zr rfl (fun hb10 => ?_) (fun hb10 => ?_)
    ·
     have h10 := of_decide_eq_true hb10
     obtain ⟨p, hpp⟩ : ∃ p, a.pairs[j]? = some p := ⟨_, List.getElem?_eq_getElem (by omega)⟩
     have hcut := pairsC_cut2 hpp
     have hsn := flat_snoc eP hpp
     have hle := flat_le eP a.pairs (j + 1)
     rw [hsn, List.length_append] at hle
     have hsl := a3.2 p (List.mem_of_getElem? hpp)
     have hep : (eP p).length = (eT p.1).length + (eT p.2).length := by simp [eP]
     have he1 : p.1.length ≤ (eT p.1).length := by simp [eT]
     have he2 : p.2.length ≤ (eT p.2).length := by simp [eT]
     refine Zs (Zc (Zd (Zv (Zd (Za (Zg (Zad rfl Tryz.s25 rfl rfl hps rfl (by omega)) rfl (Zg (Zac rfl Tryz.k40 rfl hps (by omega) hcut (vs := [_, _]) rfl rfl rfl rfl) rfl (Zt rfl rfl ?_))))))))
     refine Zaw trivial Tryz.z40 rfl rfl rfl ?_
     refine Zt rfl rfl ?_
     refine Zai trivial rfl Tryz.k40 rfl rfl rfl (vs := [_, _]) rfl rfl (by first | rfl | assumption | simp [Value.oneCell', str]) (Nat.le_of_ble_eq_true rfl) rfl ?_
     refine Zf (ρ' := [(0, _), (7, _), (34, _), (35, _), (36, _)]) ⟨rfl, rfl, rfl, rfl, rfl, trivial⟩ ?_
     refine Zc (Zd (Za (ym rfl rfl (Zg (Zi rfl Tryz.f40' rfl (by decide) rfl) rfl (Zg (Zl rfl Tryz.k9 rfl rfl rfl (vs := [_]) rfl rfl rfl) rfl (Zt rfl rfl ?_))))))
     refine Zam (caps := []) (ρ' := [(0, _), (7, _), (34, _), (35, _), (36, _)]) [1000, 1001] [] trivial rfl rfl rfl Tryz.c49 rfl rfl ⟨rfl, rfl, rfl, rfl, rfl, trivial⟩ rfl rfl rfl (FnO.mono (wText_fn b (selfQ b) (.inr rfl) ae ce (l2 ++ (a.pairs.take j).flatMap eP) p.1 (by simp only [List.length_append]; omega) u ht) ?_)
     rintro v u1 l1 hle1 ⟨rfl, rfl, b5, c5, rfl⟩ -
     refine ⟨⟨fun _ h => h, fun _ h => h, trivial⟩, ?_⟩
     refine Zf (ρ' := [(0, _), (7, _), (34, _), (35, _), (36, _)]) ⟨rfl, rfl, rfl, rfl, rfl, trivial⟩ ?_
     refine Zc (Za (ym rfl rfl (Zg (Zi rfl Tryz.f40' rfl (by decide) rfl) rfl (Zg (Zl rfl Tryz.k9 rfl rfl rfl (vs := [_]) rfl rfl rfl) rfl (Zt rfl rfl ?_)))))
     refine Zam (caps := []) (ρ' := [(0, _), (34, _), (35, _), (36, _)]) [1000, 1001] [] trivial rfl rfl rfl Tryz.c49 rfl rfl ⟨rfl, rfl, rfl, rfl, trivial⟩ rfl rfl rfl (FnO.mono (wText_fn b (selfQ b) (.inr rfl) b5 c5 (l2 ++ (a.pairs.take j).flatMap eP ++ eT p.1) p.2 (by simp only [List.length_append]; omega) u ht) ?_)
     rintro v u1 l1 hle1 ⟨rfl, rfl, b6, c6, rfl⟩ -
     refine ⟨⟨fun _ h => h, fun _ h => h, trivial⟩, ?_⟩
     refine Zf (ρ' := [(0, _), (34, _), (35, _), (36, _)]) ⟨rfl, rfl, rfl, rfl, trivial⟩ ?_
     refine Zaj (Zc (Za (Zg (Zap rfl rfl rfl (Zn (by omega))) rfl ?_)))
     refine ym rfl rfl (Zf (ρ' := [(0, _), (34, _), (35, _), (36, _)]) ⟨rfl, rfl, rfl, rfl, trivial⟩ ?_)
     refine Zae ?_
     refine ⟨mj - 1, [(0, _), (34, _), (35, _), (36, _)], [(1000, _), (1001, _)], by omega, ⟨rfl, rfl, rfl, rfl, trivial⟩, ⟨rfl, rfl, trivial⟩, j + 1, by omega, hle10, b6, c6, (by rw [hsn, ← List.append_assoc, eP, ← List.append_assoc]), (by first | rfl | simp), ?_⟩
     rfl
    ·
     have h10 := of_decide_eq_false hb10
     rw [List.take_of_length_le (by omega)]
     refine Zao ?_
     refine Zm (Zm ?_)
     refine Zaa ?_
     refine finO0n [1000, 1001]  rfl rfl ?_
     exact ⟨rfl, rfl, ae, ce, by rw [hl2, hl1]; simp only [eA, eLs, List.append_assoc]⟩
abbrev ptrB (b : Nat) : Value := .pointer (some ⟨b, 0, none⟩)
abbrev wrote (b : Nat) (l s : Bs) (u : View) : Value → View → List PO → Prop := fun r u' l' => r = .tuple #[] ∧ u = u' ∧ ∃ ad' cap', l' = wrS b ad' cap' (l ++ s)
def LineP (xs : List Inl) : Prop := ∀ (b : Nat) (ad : Option Addr) (cap : Nat) (l : Bs) (v : Value) (u : View), xs.length ≤ 140737488351232 → l.length + (eL xs).length ≤ 10000000000 → TabU u → InlS u v xs →
 FnO Tryz.prog 51 [ptrB b, v] u (wrS b ad cap l) (wrote b l (eL xs) u)
def InlP (x : Inl) : Prop := ∀ (b : Nat) (q : Option Addr) (hq : QOk b q) (ad : Option Addr) (cap : Nat) (l : Bs) (cs : List Value) (u : View), l.length + (eI x).length ≤ 10000000000 → TabU u → InlC u x cs →
 FnO Tryz.prog 30 [ptrB b, .agg cs.toArray] u (wrL b q ad cap l) (wrote b l (eI x) u)
def BlkP (x : Blk) : Prop := ∀ (b : Nat) (q : Option Addr) (hq : QOk b q) (ad : Option Addr) (cap : Nat) (l : Bs) (cs : List Value) (u : View), l.length + (eB x).length ≤ 10000000000 → TabU u → BlkC u x cs →
 FnO Tryz.prog 47 [ptrB b, .agg cs.toArray] u (wrL b q ad cap l) (wrote b l (eB x) u)
set_option maxHeartbeats 8000000 in
theorem wInline_fn (k : Int) (t d ti : Bs) (a : DAttr) (args : List Bs) (cites : List DCite) (kids : List Inl) (hkids : LineP kids) : InlP (.mk k t d ti a args cites kids) := by
 intro b q hq ad cap l cs u hl ht hcs
 obtain ⟨vc, vp, va, vt, vk, rfl, s1, s2, s3, s4, s5, hk, o2, o3, o4, o5, o6, o7, o8⟩ := hcs.cells
 have hargs : args.length ≤ 140737488351232 := o6.1
 have hcites : cites.length ≤ 140737488351232 := o7.1
 have s1b := s1
 have s2b := s2
 obtain ⟨ac1, cc1, rfl, -⟩ := s1b
 obtain ⟨ac2, cc2, rfl, -⟩ := s2b
 obtain ⟨ac3, cc3, rfl, h3⟩ := s3
 obtain ⟨ac4, cc4, rfl, h4⟩ := s4
 have s5b := s5
 obtain ⟨ks, ⟨ac5, cc5, rfl, -⟩, -⟩ := s5b
 have hkl : (eL kids).length = (eN kids.length).length + (eIs kids).length := by simp [eL]
 simp only [eI, eLs, List.length_append] at hl
 refine FnO.intro [] Tryz.func30 rfl rfl rfl ?_
 intro w0 D hw0
 refine wc_pin 0 1000 _ 0 rfl rfl ?_
 refine Zd (Za (Zt rfl rfl ?_))
 refine do_box trivial rfl (cs := [_, _, _, _, _, _, _, _, _, _]) rfl rfl rfl rfl ?_
 refine Zf (ρ' := [(0, _), (3, _)]) ⟨rfl, rfl, trivial⟩ ?_
 refine Zc (Zd (Za (ym rfl rfl (Zg (Zi rfl Tryz.f49' rfl (by decide) rfl) rfl (Zg (Zl rfl Tryz.k3 rfl rfl rfl (vs := [_]) rfl rfl rfl) rfl (Zt rfl rfl ?_))))))
 refine Zam (caps := []) (ρ' := [(0, _), (3, _)]) [1000, 1001] [] trivial rfl rfl rfl Tryz.c48 rfl rfl ⟨rfl, rfl, trivial⟩ rfl rfl rfl (FnO.mono (wNumber_fn b q hq ad cap l k hk (by omega) u ht) ?_)
 rintro v u1 l1 hle1 ⟨rfl, rfl, b1, c1, rfl⟩ -
 refine ⟨⟨fun _ h => h, fun _ h => h, trivial⟩, ?_⟩
 refine Zf (ρ' := [(0, _), (3, _)]) ⟨rfl, rfl, trivial⟩ ?_
 refine Zc (Zd (Za (ym rfl rfl (Zg (Zi rfl Tryz.f49' rfl (by decide) rfl) rfl (Zg (Zl rfl Tryz.k9 rfl rfl rfl (vs := [_]) rfl rfl rfl) rfl (Zt rfl rfl ?_))))))
 refine Zam (caps := []) (ρ' := [(0, _), (3, _)]) [1000, 1001] [] trivial rfl rfl rfl Tryz.c49 rfl rfl ⟨rfl, rfl, trivial⟩ rfl rfl rfl (FnO.mono (wText_fn b (selfQ b) (.inr rfl) b1 c1 (l ++ eN k) t (by simp only [List.length_append]; omega) u ht) ?_)
 rintro v u1 l1 hle1 ⟨rfl, rfl, b2, c2, rfl⟩ -
 refine ⟨⟨fun _ h => h, fun _ h => h, trivial⟩, ?_⟩
 refine Zf (ρ' := [(0, _), (3, _)]) ⟨rfl, rfl, trivial⟩ ?_
 refine Zc (Zd (Za (ym rfl rfl (Zg (Zi rfl Tryz.f49' rfl (by decide) rfl) rfl (Zg (Zl rfl Tryz.k9 rfl rfl rfl (vs := [_]) rfl rfl rfl) rfl (Zt rfl rfl ?_))))))
 refine Zam (caps := []) (ρ' := [(0, _), (3, _)]) [1000, 1001] [] trivial rfl rfl rfl Tryz.c49 rfl rfl ⟨rfl, rfl, trivial⟩ rfl rfl rfl (FnO.mono (wText_fn b (selfQ b) (.inr rfl) b2 c2 (l ++ eN k ++ eT t) d (by simp only [List.length_append]; omega) u ht) ?_)
 rintro v u1 l1 hle1 ⟨rfl, rfl, b3, c3, rfl⟩ -
 refine ⟨⟨fun _ h => h, fun _ h => h, trivial⟩, ?_⟩
 refine Zf (ρ' := [(0, _), (3, _)]) ⟨rfl, rfl, trivial⟩ ?_
 refine Zc (Zd (Za (ym rfl rfl (Zg (Zi rfl Tryz.f49' rfl (by decide) rfl) rfl (Zg (Zl rfl Tryz.k9 rfl rfl rfl (vs := [_]) rfl rfl rfl) rfl (Zt rfl rfl ?_))))))
 refine Zam (caps := []) (ρ' := [(0, _), (3, _)]) [1000, 1001] [] trivial rfl rfl rfl Tryz.c49 rfl rfl ⟨rfl, rfl, trivial⟩ rfl rfl rfl (FnO.mono (wText_fn b (selfQ b) (.inr rfl) b3 c3 (l ++ eN k ++ eT t ++ eT d) ti (by simp only [List.length_append]; omega) u ht) ?_)
 rintro v u1 l1 hle1 ⟨rfl, rfl, b4, c4, rfl⟩ -
 refine ⟨⟨fun _ h => h, fun _ h => h, trivial⟩, ?_⟩
 refine Zf (ρ' := [(0, _), (3, _)]) ⟨rfl, rfl, trivial⟩ ?_
 refine Zc (Zd (Za (ym rfl rfl (Zg (Zi rfl Tryz.f49' rfl (by decide) rfl) rfl (Zg (Zl rfl Tryz.k27 rfl rfl rfl (vs := [_, _, _]) rfl rfl rfl) rfl (Zt rfl rfl ?_))))))
 refine Zam (caps := []) (ρ' := [(0, _), (3, _)]) [1000, 1001] [] trivial rfl rfl rfl Tryz.c50 rfl rfl ⟨rfl, rfl, trivial⟩ rfl rfl rfl (FnO.mono (wAttr_fn b b4 c4 (l ++ eN k ++ eT t ++ eT d ++ eT ti) a _ _ u o5 (by simp only [List.length_append]; omega) ht s1 s2) ?_)
 rintro v u1 l1 hle1 ⟨rfl, rfl, b5, c5, rfl⟩ -
 refine ⟨⟨fun _ h => h, fun _ h => h, trivial⟩, ?_⟩
 refine Zf (ρ' := [(0, _), (3, _)]) ⟨rfl, rfl, trivial⟩ ?_
 refine Zc (Zd (Za (ym rfl rfl (Zg (Zi rfl Tryz.f49' rfl (by decide) rfl) rfl (Zg (Zl rfl Tryz.k24 rfl rfl rfl (vs := [_]) rfl rfl rfl) rfl (Zg (Zah rfl rfl Tryz.s24 rfl) rfl (Zt rfl rfl ?_)))))))
 refine Zam (caps := []) (ρ' := [(0, _), (3, _)]) [1000, 1001] [] trivial rfl rfl rfl Tryz.c48 rfl rfl ⟨rfl, rfl, trivial⟩ rfl rfl rfl (FnO.mono (wNumber_fn b (selfQ b) (.inr rfl) b5 c5 (l ++ eN k ++ eT t ++ eT d ++ eT ti ++ eA a) args.length ⟨by omega, by omega⟩ (by simp only [List.length_append]; omega) u ht) ?_)
 rintro v u1 l1 hle1 ⟨rfl, rfl, b6, c6, rfl⟩ -
 refine ⟨⟨fun _ h => h, fun _ h => h, trivial⟩, ?_⟩
 obtain ⟨l1, hl1⟩ : ∃ l1, l1 = l ++ eN k ++ eT t ++ eT d ++ eT ti ++ eA a ++ eN args.length := ⟨_, rfl⟩
 have hl1n := congrArg List.length hl1
 simp only [List.length_append] at hl1n
 rw [← hl1]
 refine Zf (ρ' := [(0, _), (3, _)]) ⟨rfl, rfl, trivial⟩ ?_
 refine Zc (Zd (Zd (Za (Zg (Zi rfl Tryz.f49' rfl (by decide) rfl) rfl (Zg (Zl rfl Tryz.k24 rfl rfl rfl (vs := [_]) rfl rfl rfl) rfl (Zg (Zah rfl rfl Tryz.s24 rfl) rfl (ym rfl rfl (Zf (ρ' := [(0, _), (3, _), (34, _), (35, _), (36, _)]) ⟨rfl, rfl, rfl, rfl, rfl, trivial⟩ ?_))))))))
 refine Zc (Zv ?_)
 refine Zas (fun m_0 ρ σ u' => ∃ i : Nat, i + m_0 = args.length ∧ VLe u u' ∧ ∃ (ac : Option Addr) (cc : Nat), σ = [(3, (none, .box [.int .i64 k, str t, str d, str ti, str a.id, .slice ac1 a.classes.length cc1, .slice ac2 a.pairs.length cc2, .slice ac3 args.length cc3, .slice ac4 cites.length cc4, .slice ac5 kids.length cc5])), (1000, (some b, .bt 75 [.pointer (selfQ b), .slice ac (l1 ++ (args.take i).flatMap eT).length cc])), (1001, (none, .rwv (.slice ac (l1 ++ (args.take i).flatMap eT).length cc) 5 1 (l1 ++ (args.take i).flatMap eT).length (bytesC (l1 ++ (args.take i).flatMap eT))))] ∧ ρ = [(0, .p 1000 0), (3, .p 3 0), (34, .v (.slice ac3 args.length cc3)), (35, .v (.int .i64 args.length)), (36, .v (.int .i64 i))] ∧ (u = u')) (args.length) ?_ ?_
 ·
  refine ⟨[(0, _), (3, _), (34, _), (35, _), (36, _)], [(3, _), (1000, _), (1001, _)], ⟨rfl, rfl, rfl, rfl, rfl, trivial⟩, ⟨rfl, rfl, rfl, trivial⟩, 0, by omega, VLe.refl _, b6, c6, (by simp), rfl, ?_⟩
  rfl
 ·
  rintro m ρ σ u' ⟨i, hi8, hle8, ac, cc, rfl, rfl, rfl⟩
  refine Zd (Za (Zg (Zaz rfl rfl rfl) rfl (Zf (ρ' := [(0, _), (3, _), (34, _), (35, _), (36, _), (37, _)]) ⟨rfl, rfl, rfl, rfl, rfl, rfl, trivial⟩ ?_)))
  refine Zc (Zd ?_)
  refine Zr rfl (fun hb8 => ?_) (fun hb8 => ?_)
  ·
   have h8 := of_decide_eq_true hb8
   obtain ⟨s, hs⟩ : ∃ s, args[i]? = some s := ⟨_, List.getElem?_eq_getElem (by omega)⟩
   have hcut := strsC_cut hs
   have hsn := flat_snoc eT hs
   have hle := flat_le eT args (i + 1)
   rw [hsn, List.length_append] at hle
   have hsl := o6.2 s (List.mem_of_getElem? hs)
   refine Zs (Zc (Zd (Zv (Zd (Za (Zg (Zad rfl Tryz.s24 rfl rfl h3 rfl (by omega)) rfl (Zg (Zac rfl Tryz.k9 rfl h3 (by omega) hcut (vs := [_]) rfl rfl rfl rfl) rfl ?_)))))))
   refine ya rfl rfl (Zf (ρ' := [(0, _), (3, _), (5, _), (34, _), (35, _), (36, _)]) ⟨rfl, rfl, rfl, rfl, rfl, rfl, trivial⟩ ?_)
   refine Zc (Za (ym rfl rfl (ym rfl rfl (Zt rfl rfl ?_))))
   refine Zam (caps := []) (ρ' := [(0, _), (3, _), (34, _), (35, _), (36, _)]) [1000, 1001] [] trivial rfl rfl rfl Tryz.c49 rfl rfl ⟨rfl, rfl, rfl, rfl, rfl, trivial⟩ rfl rfl rfl (FnO.mono (wText_fn b (selfQ b) (.inr rfl) ac cc (l1 ++ (args.take i).flatMap eT) s (by simp only [List.length_append]; omega) u ht) ?_)
   rintro v u1 l1 hle1 ⟨rfl, rfl, b7, c7, rfl⟩ -
   refine ⟨⟨fun _ h => h, fun _ h => h, trivial⟩, ?_⟩
   refine Zf (ρ' := [(0, _), (3, _), (34, _), (35, _), (36, _)]) ⟨rfl, rfl, rfl, rfl, rfl, trivial⟩ ?_
   refine Zaj (Zc (Za (Zg (Zap rfl rfl rfl (Zn (by omega))) rfl ?_)))
   refine ym rfl rfl (Zf (ρ' := [(0, _), (3, _), (34, _), (35, _), (36, _)]) ⟨rfl, rfl, rfl, rfl, rfl, trivial⟩ ?_)
   refine Zae ?_
   refine ⟨m - 1, [(0, _), (3, _), (34, _), (35, _), (36, _)], [(3, _), (1000, _), (1001, _)], by omega, ⟨rfl, rfl, rfl, rfl, rfl, trivial⟩, ⟨rfl, rfl, rfl, trivial⟩, i + 1, by omega, hle8, b7, c7, (by rw [hsn, ← List.append_assoc]), (by first | rfl | simp), ?_⟩
   rfl
  ·
   have h8 := of_decide_eq_false hb8
   rw [List.take_of_length_le (by omega)]
   refine Zao ?_
   refine Zm (Zm ?_)
   refine Zaa ?_
   refine Zc (Zd (Za (ym rfl rfl (Zg (Zi rfl Tryz.f49' rfl (by decide) rfl) rfl (Zg (Zl rfl Tryz.k47 rfl rfl rfl (vs := [_]) rfl rfl rfl) rfl (Zg (Zah rfl rfl Tryz.s47 rfl) rfl (Zt rfl rfl ?_)))))))
   refine Zam (caps := []) (ρ' := [(0, _), (3, _)]) [1000, 1001] [] trivial rfl rfl rfl Tryz.c48 rfl rfl ⟨rfl, rfl, trivial⟩ rfl rfl rfl (FnO.mono (wNumber_fn b (selfQ b) (.inr rfl) ac cc (l1 ++ args.flatMap eT) cites.length ⟨by omega, by omega⟩ (by simp only [List.length_append]; omega) u ht) ?_)
   rintro v u1 l1 hle1 ⟨rfl, rfl, b8, c8, rfl⟩ -
   refine ⟨⟨fun _ h => h, fun _ h => h, trivial⟩, ?_⟩
   obtain ⟨l2, hl2⟩ : ∃ l2, l2 = l1 ++ args.flatMap eT ++ eN cites.length := ⟨_, rfl⟩
   have hl2n := congrArg List.length hl2
   simp only [List.length_append] at hl2n
   rw [← hl2]
   refine Zf (ρ' := [(0, _), (3, _)]) ⟨rfl, rfl, trivial⟩ ?_
   refine Zc (Zd (Zd (Za (Zg (Zi rfl Tryz.f49' rfl (by decide) rfl) rfl (Zg (Zl rfl Tryz.k47 rfl rfl rfl (vs := [_]) rfl rfl rfl) rfl (Zg (Zah rfl rfl Tryz.s47 rfl) rfl (ym rfl rfl (Zf (ρ' := [(0, _), (3, _), (50, _), (51, _), (52, _)]) ⟨rfl, rfl, rfl, rfl, rfl, trivial⟩ ?_))))))))
   refine Zc (Zv ?_)
   refine Zas (fun m_0 ρ σ u' => ∃ j : Nat, j + m_0 = cites.length ∧ VLe u u' ∧ ∃ (ae : Option Addr) (ce : Nat), σ = [(3, (none, .box [.int .i64 k, str t, str d, str ti, str a.id, .slice ac1 a.classes.length cc1, .slice ac2 a.pairs.length cc2, .slice ac3 args.length cc3, .slice ac4 cites.length cc4, .slice ac5 kids.length cc5])), (1000, (some b, .bt 75 [.pointer (selfQ b), .slice ae (l2 ++ (cites.take j).flatMap eC).length ce])), (1001, (none, .rwv (.slice ae (l2 ++ (cites.take j).flatMap eC).length ce) 5 1 (l2 ++ (cites.take j).flatMap eC).length (bytesC (l2 ++ (cites.take j).flatMap eC))))] ∧ ρ = [(0, .p 1000 0), (3, .p 3 0), (50, .v (.slice ac4 cites.length cc4)), (51, .v (.int .i64 cites.length)), (52, .v (.int .i64 j))] ∧ (u = u')) (cites.length) ?_ ?_
   ·
    refine ⟨[(0, _), (3, _), (50, _), (51, _), (52, _)], [(3, _), (1000, _), (1001, _)], ⟨rfl, rfl, rfl, rfl, rfl, trivial⟩, ⟨rfl, rfl, rfl, trivial⟩, 0, by omega, VLe.refl _, b8, c8, (by simp), rfl, ?_⟩
    rfl
   ·
    rintro mj ρ σ u' ⟨j, hi14, hle14, ae, ce, rfl, rfl, rfl⟩
    refine Zd (Za (Zg (Zaz rfl rfl rfl) rfl (Zf (ρ' := [(0, _), (3, _), (50, _), (51, _), (52, _), (53, _)]) ⟨rfl, rfl, rfl, rfl, rfl, rfl, trivial⟩ ?_)))
    refine Zc (Zd ?_)
    refine Zr rfl (fun hb14 => ?_) (fun hb14 => ?_)
    ·
     have h14 := of_decide_eq_true hb14
     obtain ⟨⟨ck, cp, cu, cb⟩, hc⟩ : ∃ c, cites[j]? = some c := ⟨_, List.getElem?_eq_getElem (by omega)⟩
     have hcut : cut (citesC cites) (j * 4) 4 = [str ck, str cp, str cu, .bool cb] := cut_citesC hc
     have hsn := flat_snoc eC hc
     have hle := flat_le eC cites (j + 1)
     rw [hsn, List.length_append] at hle
     obtain ⟨l3, hl3⟩ : ∃ l3, l3 = l2 ++ (cites.take j).flatMap eC := ⟨_, rfl⟩
     have hl3n := congrArg List.length hl3
     simp only [List.length_append] at hl3n
     have hec : (eC ⟨ck, cp, cu, cb⟩).length = (eT ck).length + (eT cp).length + (eT cu).length + (eN (if cb = true then 1 else 0)).length := by simp only [eC, List.length_append]
     rw [← hl3]
     refine Zs (Zc (Zd (Zv (Zd (Za (Zg (Zad rfl Tryz.s47 rfl rfl h4 rfl (by omega)) rfl (Zg (Zac rfl Tryz.k59 rfl h4 (by omega) hcut (vs := [_, _, _, _]) rfl rfl rfl rfl) rfl (Zt rfl rfl ?_))))))))
     refine Zaw trivial Tryz.z59 rfl rfl rfl ?_
     refine Zt rfl rfl ?_
     refine Zai trivial rfl Tryz.k59 rfl rfl rfl (vs := [_, _, _, _]) rfl rfl (by first | rfl | assumption | simp [Value.oneCell', str]) (Nat.le_of_ble_eq_true rfl) rfl ?_
     refine Zf (ρ' := [(0, _), (3, _), (7, _), (50, _), (51, _), (52, _)]) ⟨rfl, rfl, rfl, rfl, rfl, rfl, trivial⟩ ?_
     refine Zc (Zd (Za (ym rfl rfl (Zg (Zi rfl Tryz.f59' rfl (by decide) rfl) rfl (Zg (Zl rfl Tryz.k9 rfl rfl rfl (vs := [_]) rfl rfl rfl) rfl (Zt rfl rfl ?_))))))
     refine Zam (caps := []) (ρ' := [(0, _), (3, _), (7, _), (50, _), (51, _), (52, _)]) [1000, 1001] [] trivial rfl rfl rfl Tryz.c49 rfl rfl ⟨rfl, rfl, rfl, rfl, rfl, rfl, trivial⟩ rfl rfl rfl (FnO.mono (wText_fn b (selfQ b) (.inr rfl) ae ce l3 ck (by omega) u ht) ?_)
     rintro v u1 l1 hle1 ⟨rfl, rfl, d1, e1, rfl⟩ -
     refine ⟨⟨fun _ h => h, fun _ h => h, trivial⟩, ?_⟩
     refine Zf (ρ' := [(0, _), (3, _), (7, _), (50, _), (51, _), (52, _)]) ⟨rfl, rfl, rfl, rfl, rfl, rfl, trivial⟩ ?_
     refine Zc (Zd (Za (ym rfl rfl (Zg (Zi rfl Tryz.f59' rfl (by decide) rfl) rfl (Zg (Zl rfl Tryz.k9 rfl rfl rfl (vs := [_]) rfl rfl rfl) rfl (Zt rfl rfl ?_))))))
     refine Zam (caps := []) (ρ' := [(0, _), (3, _), (7, _), (50, _), (51, _), (52, _)]) [1000, 1001] [] trivial rfl rfl rfl Tryz.c49 rfl rfl ⟨rfl, rfl, rfl, rfl, rfl, rfl, trivial⟩ rfl rfl rfl (FnO.mono (wText_fn b (selfQ b) (.inr rfl) d1 e1 (l3 ++ eT ck) cp (by simp only [List.length_append]; omega) u ht) ?_)
     rintro v u1 l1 hle1 ⟨rfl, rfl, d2, e2, rfl⟩ -
     refine ⟨⟨fun _ h => h, fun _ h => h, trivial⟩, ?_⟩
     refine Zf (ρ' := [(0, _), (3, _), (7, _), (50, _), (51, _), (52, _)]) ⟨rfl, rfl, rfl, rfl, rfl, rfl, trivial⟩ ?_
     refine Zc (Zd (Za (ym rfl rfl (Zg (Zi rfl Tryz.f59' rfl (by decide) rfl) rfl (Zg (Zl rfl Tryz.k9 rfl rfl rfl (vs := [_]) rfl rfl rfl) rfl (Zt rfl rfl ?_))))))
     refine Zam (caps := []) (ρ' := [(0, _), (3, _), (7, _), (50, _), (51, _), (52, _)]) [1000, 1001] [] trivial rfl rfl rfl Tryz.c49 rfl rfl ⟨rfl, rfl, rfl, rfl, rfl, rfl, trivial⟩ rfl rfl rfl (FnO.mono (wText_fn b (selfQ b) (.inr rfl) d2 e2 (l3 ++ eT ck ++ eT cp) cu (by simp only [List.length_append]; omega) u ht) ?_)
     rintro v u1 l1 hle1 ⟨rfl, rfl, d3, e3, rfl⟩ -
     refine ⟨⟨fun _ h => h, fun _ h => h, trivial⟩, ?_⟩
     refine Zf (ρ' := [(0, _), (3, _), (7, _), (50, _), (51, _), (52, _)]) ⟨rfl, rfl, rfl, rfl, rfl, rfl, trivial⟩ ?_
     refine Zc (Zd (Za (Zg (Zi rfl Tryz.f59' rfl (by decide) rfl) rfl (Zg (Zl rfl Tryz.k4 rfl rfl rfl (vs := [_]) rfl rfl rfl) rfl (Zf (ρ' := [(0, _), (3, _), (50, _), (51, _), (52, _), (69, _)]) ⟨rfl, rfl, rfl, rfl, rfl, rfl, trivial⟩ ?_)))))
     refine Zc ?_
     refine Zr rfl (fun hb19 => ?_) (fun hb19 => ?_)
     ·
      have hcb : (if cb = true then (1 : Int) else 0) = 1 := if_pos hb19
      rw [hcb] at hec
      have hfin : l3 ++ eT ck ++ eT cp ++ eT cu ++ eN 1 = l3 ++ eC ⟨ck, cp, cu, cb⟩ := by simp only [eC, hcb, List.append_assoc]
      refine Za (ym rfl rfl (Zt rfl rfl ?_))
      refine Zam (caps := []) (ρ' := [(0, _), (3, _), (50, _), (51, _), (52, _)]) [1000, 1001] [] trivial rfl rfl rfl Tryz.c48 rfl rfl ⟨rfl, rfl, rfl, rfl, rfl, trivial⟩ rfl rfl rfl (FnO.mono (wNumber_fn b (selfQ b) (.inr rfl) d3 e3 (l3 ++ eT ck ++ eT cp ++ eT cu) 1 ⟨by omega, by omega⟩ (by simp only [List.length_append]; omega) u ht) ?_)
      rintro v u1 l1 hle1 ⟨rfl, rfl, d4, e4, rfl⟩ -
      refine ⟨⟨fun _ h => h, fun _ h => h, trivial⟩, ?_⟩
      refine Zf (ρ' := [(0, _), (3, _), (50, _), (51, _), (52, _)]) ⟨rfl, rfl, rfl, rfl, rfl, trivial⟩ ?_
      refine Zaj (Zc (Za (Zg (Zap rfl rfl rfl (Zn (by omega))) rfl ?_)))
      refine ym rfl rfl (Zf (ρ' := [(0, _), (3, _), (50, _), (51, _), (52, _)]) ⟨rfl, rfl, rfl, rfl, rfl, trivial⟩ ?_)
      refine Zae ?_
      refine ⟨mj - 1, [(0, _), (3, _), (50, _), (51, _), (52, _)], [(3, _), (1000, _), (1001, _)], by omega, ⟨rfl, rfl, rfl, rfl, rfl, trivial⟩, ⟨rfl, rfl, rfl, trivial⟩, j + 1, by omega, hle14, d4, e4, (by rw [hsn, ← List.append_assoc, ← hl3, ← hfin]), (by first | rfl | simp), ?_⟩
      rfl
     ·
      have hcb : (if cb = true then (1 : Int) else 0) = 0 := if_neg (by rw [hb19]; decide)
      rw [hcb] at hec
      have hfin : l3 ++ eT ck ++ eT cp ++ eT cu ++ eN 0 = l3 ++ eC ⟨ck, cp, cu, cb⟩ := by simp only [eC, hcb, List.append_assoc]
      refine Za (ym rfl rfl (Zt rfl rfl ?_))
      refine Zam (caps := []) (ρ' := [(0, _), (3, _), (50, _), (51, _), (52, _)]) [1000, 1001] [] trivial rfl rfl rfl Tryz.c48 rfl rfl ⟨rfl, rfl, rfl, rfl, rfl, trivial⟩ rfl rfl rfl (FnO.mono (wNumber_fn b (selfQ b) (.inr rfl) d3 e3 (l3 ++ eT ck ++ eT cp ++ eT cu) 0 ⟨by omega, by omega⟩ (by simp only [List.length_append]; omega) u ht) ?_)
      rintro v u1 l1 hle1 ⟨rfl, rfl, d4, e4, rfl⟩ -
      refine ⟨⟨fun _ h => h, fun _ h => h, trivial⟩, ?_⟩
      refine Zf (ρ' := [(0, _), (3, _), (50, _), (51, _), (52, _)]) ⟨rfl, rfl, rfl, rfl, rfl, trivial⟩ ?_
      refine Zaj (Zc (Za (Zg (Zap rfl rfl rfl (Zn (by omega))) rfl ?_)))
      refine ym rfl rfl (Zf (ρ' := [(0, _), (3, _), (50, _), (51, _), (52, _)]) ⟨rfl, rfl, rfl, rfl, rfl, trivial⟩ ?_)
      refine Zae ?_
      refine ⟨mj - 1, [(0, _), (3, _), (50, _), (51, _), (52, _)], [(3, _), (1000, _), (1001, _)], by omega, ⟨rfl, rfl, rfl, rfl, rfl, trivial⟩, ⟨rfl, rfl, rfl, trivial⟩, j + 1, by omega, hle14, d4, e4, (by rw [hsn, ← List.append_assoc, ← hl3, ← hfin]), (by first | rfl | simp), ?_⟩
      rfl
    ·
     have h14 := of_decide_eq_false hb14
     rw [List.take_of_length_le (by omega)]
     refine Zao ?_
     refine Zm (Zm ?_)
     refine Zaa ?_
     refine Zc (Za (ym rfl rfl (Zg (Zi rfl Tryz.f49' rfl (by decide) rfl) rfl (Zg (Zl rfl Tryz.k22 rfl rfl rfl (vs := [_]) rfl rfl rfl) rfl (Zt rfl rfl ?_)))))
     refine Zam (caps := []) (ρ' := []) [1000, 1001] [] trivial rfl rfl rfl Tryz.c51 rfl rfl trivial rfl rfl rfl (FnO.mono (hkids b ae ce (l2 ++ cites.flatMap eC) _ u o8 (by simp only [List.length_append]; omega) ht s5) ?_)
     rintro v u1 l1 hle1 ⟨rfl, rfl, b9, c9, rfl⟩ -
     refine ⟨⟨fun _ h => h, fun _ h => h, trivial⟩, ?_⟩
     refine Zf (ρ' := []) trivial ?_
     refine finO0n [1000, 1001]  rfl rfl ?_
     exact ⟨rfl, rfl, b9, c9, by rw [hl2, hl1]; simp only [eI, eLs, eL, List.append_assoc]⟩
set_option maxHeartbeats 4000000 in
theorem wLine_fn (xs : List Inl) (hxs : ∀ x ∈ xs, InlP x) : LineP xs := by
 intro b ad cap l v u hxl hl ht ha
 obtain ⟨cs, ⟨aA, cA, rfl, h1⟩, hc1⟩ := ha
 have hll : (eL xs).length = (eN xs.length).length + (xs.flatMap eI).length := by simp [eL, eIs_flat]
 refine FnO.intro [] Tryz.func51 rfl rfl rfl ?_
 intro w0 D hw0
 refine wc_pin 0 1000 _ 0 rfl rfl ?_
 refine Zd (Za (ym rfl rfl (ym rfl rfl (Zg (Zah rfl rfl Tryz.s22 rfl) rfl (Zt rfl rfl ?_)))))
 refine Zam (caps := []) (ρ' := [(0, _), (1, _)]) [1000, 1001] [] trivial rfl rfl rfl Tryz.c48 rfl rfl ⟨rfl, rfl, trivial⟩ rfl rfl rfl (FnO.mono (wNumber_fn b (selfQ b) (.inr rfl) ad cap l xs.length ⟨by omega, by omega⟩ (by omega) u ht) ?_)
 rintro v u1 l1 hle1 ⟨rfl, rfl, b1, c1, rfl⟩ -
 refine ⟨⟨fun _ h => h, fun _ h => h, trivial⟩, ?_⟩
 obtain ⟨l1, hl1⟩ : ∃ l1, l1 = l ++ eN xs.length := ⟨_, rfl⟩
 have hl1n := congrArg List.length hl1
 simp only [List.length_append] at hl1n
 rw [← hl1]
 refine Zf (ρ' := [(0, _), (1, _)]) ⟨rfl, rfl, trivial⟩ ?_
 refine Zc (Zd (Za (ym rfl rfl (Zg (Zah rfl rfl Tryz.s22 rfl) rfl (ym rfl rfl (Zf (ρ' := [(0, _), (10, _), (11, _), (12, _)]) ⟨rfl, rfl, rfl, rfl, trivial⟩ ?_))))))
 refine Zc (Zv ?_)
 refine Zas (fun m_0 ρ σ u' => ∃ i : Nat, i + m_0 = xs.length ∧ VLe u u' ∧ ∃ (ac : Option Addr) (cc : Nat), σ = [(1000, (some b, .bt 75 [.pointer (selfQ b), .slice ac (l1 ++ (xs.take i).flatMap eI).length cc])), (1001, (none, .rwv (.slice ac (l1 ++ (xs.take i).flatMap eI).length cc) 5 1 (l1 ++ (xs.take i).flatMap eI).length (bytesC (l1 ++ (xs.take i).flatMap eI))))] ∧ ρ = [(0, .p 1000 0), (10, .v (.slice aA xs.length cA)), (11, .v (.int .i64 xs.length)), (12, .v (.int .i64 i))] ∧ (u = u')) (xs.length) ?_ ?_
 ·
  refine ⟨[(0, _), (10, _), (11, _), (12, _)], [(1000, _), (1001, _)], ⟨rfl, rfl, rfl, rfl, trivial⟩, ⟨rfl, rfl, trivial⟩, 0, by omega, VLe.refl _, b1, c1, (by simp), rfl, ?_⟩
  rfl
 ·
  rintro m ρ σ u' ⟨i, hi2, hle2, ac, cc, rfl, rfl, rfl⟩
  refine Zd (Za (Zg (Zaz rfl rfl rfl) rfl (Zf (ρ' := [(0, _), (10, _), (11, _), (12, _), (13, _)]) ⟨rfl, rfl, rfl, rfl, rfl, trivial⟩ ?_)))
  refine Zc (Zd ?_)
  refine Zr rfl (fun hb2 => ?_) (fun hb2 => ?_)
  ·
   have h2 := of_decide_eq_true hb2
   obtain ⟨x, hx⟩ : ∃ x, xs[i]? = some x := ⟨_, List.getElem?_eq_getElem (by omega)⟩
   have hC := hc1.get i x hx
   obtain ⟨k, t, d, ti, a, args, cites, kids⟩ := x
   obtain ⟨vc, vp, va, vt, vk, hcut, -⟩ := hC.cells
   have hC2 := hC
   rw [hcut] at hC2
   have oneAll := hC2.one
   have hsn := flat_snoc eI hx
   have hle := flat_le eI xs (i + 1)
   rw [hsn, List.length_append] at hle
   have hxi := hxs _ (List.mem_of_getElem? hx)
   refine Zs (Zc (Zd (Zv (Zd (Za (Zg (Zad rfl Tryz.s22 rfl rfl h1 rfl (by omega)) rfl (Zg (Zac rfl Tryz.k49 rfl h1 (by omega) hcut (vs := [_, _, _, _, _, _, _, _, _, _]) rfl rfl rfl rfl) rfl (Zt rfl rfl ?_))))))))
   refine Zaw trivial Tryz.z49 rfl rfl rfl ?_
   refine Zt rfl rfl ?_
   refine Zai trivial rfl Tryz.k49 rfl rfl rfl (vs := [_, _, _, _, _, _, _, _, _, _]) rfl rfl (by first | rfl | assumption | simp [Value.oneCell', str]) (Nat.le_of_ble_eq_true rfl) rfl ?_
   refine Zf (ρ' := [(0, _), (5, _), (10, _), (11, _), (12, _)]) ⟨rfl, rfl, rfl, rfl, rfl, trivial⟩ ?_
   refine Zc (Za (ym rfl rfl (Zg (Zl rfl Tryz.k49 rfl rfl rfl (vs := [_, _, _, _, _, _, _, _, _, _]) rfl rfl rfl) rfl (Zt rfl rfl ?_))))
   refine Zam (caps := []) (ρ' := [(0, _), (10, _), (11, _), (12, _)]) [1000, 1001] [] trivial rfl rfl rfl Tryz.c30 rfl rfl ⟨rfl, rfl, rfl, rfl, trivial⟩ rfl rfl rfl (FnO.mono (hxi b (selfQ b) (.inr rfl) ac cc (l1 ++ (xs.take i).flatMap eI) _ u (by simp only [List.length_append]; omega) ht hC2) ?_)
   rintro v u1 l1 hle1 ⟨rfl, rfl, b3, c3, rfl⟩ -
   refine ⟨⟨fun _ h => h, fun _ h => h, trivial⟩, ?_⟩
   refine Zf (ρ' := [(0, _), (10, _), (11, _), (12, _)]) ⟨rfl, rfl, rfl, rfl, trivial⟩ ?_
   refine Zaj (Zc (Za (Zg (Zap rfl rfl rfl (Zn (by omega))) rfl ?_)))
   refine ym rfl rfl (Zf (ρ' := [(0, _), (10, _), (11, _), (12, _)]) ⟨rfl, rfl, rfl, rfl, trivial⟩ ?_)
   refine Zae ?_
   refine ⟨m - 1, [(0, _), (10, _), (11, _), (12, _)], [(1000, _), (1001, _)], by omega, ⟨rfl, rfl, rfl, rfl, trivial⟩, ⟨rfl, rfl, trivial⟩, i + 1, by omega, hle2, b3, c3, (by rw [hsn, ← List.append_assoc]), (by first | rfl | simp), ?_⟩
   rfl
  ·
   have h2 := of_decide_eq_false hb2
   rw [List.take_of_length_le (by omega)]
   refine Zao ?_
   refine Zm (Zm ?_)
   refine Zaa ?_
   refine finO0n [1000, 1001]  rfl rfl ?_
   exact ⟨rfl, rfl, ac, cc, by rw [hl1, eL, eIs_flat, List.append_assoc]⟩
mutual
theorem inlP : ∀ x, InlP x
 | .mk k t d ti a args cites kids => wInline_fn k t d ti a args cites kids (wLine_fn kids (inlsP kids))
theorem inlsP : ∀ xs : List Inl, ∀ x ∈ xs, InlP x
 | [], x, h => by cases h
 | y :: ys, x, h => by
  rcases List.mem_cons.1 h with e | h
  ·
   rw [e]; exact inlP y
  ·
   exact inlsP ys x h
end
theorem lineP (xs : List Inl) : LineP xs := wLine_fn xs (inlsP xs)
set_option maxHeartbeats 4000000 in
theorem wBlock_fn (k lv : Int) (inf t d ti : Bs) (a : DAttr) (line : List Inl) (kids : List Blk) (hkids : ∀ x ∈ kids, BlkP x) : BlkP (.mk k lv inf t d ti a line kids) := by
 intro b q hq ad cap l cs u hl ht hcs
 obtain ⟨vc, vp, vl, vk, rfl, s1, s2, s3, ⟨ks, ⟨ac4, cc4, rfl, h4⟩, hK⟩, hk, hlv, o2, o3, o4, o5, o6, o7, o8⟩ := hcs.cells
 have s1b := s1
 have s2b := s2
 obtain ⟨ac1, cc1, rfl, -⟩ := s1b
 obtain ⟨ac2, cc2, rfl, -⟩ := s2b
 have s3b := s3
 obtain ⟨ls, ⟨ac3, cc3, rfl, -⟩, -⟩ := s3b
 simp only [eB, eBs_flat, List.length_append] at hl
 refine FnO.intro [] Tryz.func47 rfl rfl rfl ?_
 intro w0 D hw0
 refine wc_pin 0 1000 _ 0 rfl rfl ?_
 refine Zd (Za (Zt rfl rfl ?_))
 refine do_box trivial rfl (cs := [_, _, _, _, _, _, _, _, _, _, _]) rfl rfl rfl rfl ?_
 refine Zf (ρ' := [(0, _), (3, _)]) ⟨rfl, rfl, trivial⟩ ?_
 refine Zc (Zd (Za (ym rfl rfl (Zg (Zi rfl Tryz.f30' rfl (by decide) rfl) rfl (Zg (Zl rfl Tryz.k3 rfl rfl rfl (vs := [_]) rfl rfl rfl) rfl (Zt rfl rfl ?_))))))
 refine Zam (caps := []) (ρ' := [(0, _), (3, _)]) [1000, 1001] [] trivial rfl rfl rfl Tryz.c48 rfl rfl ⟨rfl, rfl, trivial⟩ rfl rfl rfl (FnO.mono (wNumber_fn b q hq ad cap l k hk (by omega) u ht) ?_)
 rintro v u1 l1 hle1 ⟨rfl, rfl, b1, c1, rfl⟩ -
 refine ⟨⟨fun _ h => h, fun _ h => h, trivial⟩, ?_⟩
 refine Zf (ρ' := [(0, _), (3, _)]) ⟨rfl, rfl, trivial⟩ ?_
 refine Zc (Zd (Za (ym rfl rfl (Zg (Zi rfl Tryz.f30' rfl (by decide) rfl) rfl (Zg (Zl rfl Tryz.k3 rfl rfl rfl (vs := [_]) rfl rfl rfl) rfl (Zt rfl rfl ?_))))))
 refine Zam (caps := []) (ρ' := [(0, _), (3, _)]) [1000, 1001] [] trivial rfl rfl rfl Tryz.c48 rfl rfl ⟨rfl, rfl, trivial⟩ rfl rfl rfl (FnO.mono (wNumber_fn b (selfQ b) (.inr rfl) b1 c1 (l ++ eN k) lv hlv (by simp only [List.length_append]; omega) u ht) ?_)
 rintro v u1 l1 hle1 ⟨rfl, rfl, b2, c2, rfl⟩ -
 refine ⟨⟨fun _ h => h, fun _ h => h, trivial⟩, ?_⟩
 refine Zf (ρ' := [(0, _), (3, _)]) ⟨rfl, rfl, trivial⟩ ?_
 refine Zc (Zd (Za (ym rfl rfl (Zg (Zi rfl Tryz.f30' rfl (by decide) rfl) rfl (Zg (Zl rfl Tryz.k9 rfl rfl rfl (vs := [_]) rfl rfl rfl) rfl (Zt rfl rfl ?_))))))
 refine Zam (caps := []) (ρ' := [(0, _), (3, _)]) [1000, 1001] [] trivial rfl rfl rfl Tryz.c49 rfl rfl ⟨rfl, rfl, trivial⟩ rfl rfl rfl (FnO.mono (wText_fn b (selfQ b) (.inr rfl) b2 c2 (l ++ eN k ++ eN lv) inf (by simp only [List.length_append]; omega) u ht) ?_)
 rintro v u1 l1 hle1 ⟨rfl, rfl, b3, c3, rfl⟩ -
 refine ⟨⟨fun _ h => h, fun _ h => h, trivial⟩, ?_⟩
 refine Zf (ρ' := [(0, _), (3, _)]) ⟨rfl, rfl, trivial⟩ ?_
 refine Zc (Zd (Za (ym rfl rfl (Zg (Zi rfl Tryz.f30' rfl (by decide) rfl) rfl (Zg (Zl rfl Tryz.k9 rfl rfl rfl (vs := [_]) rfl rfl rfl) rfl (Zt rfl rfl ?_))))))
 refine Zam (caps := []) (ρ' := [(0, _), (3, _)]) [1000, 1001] [] trivial rfl rfl rfl Tryz.c49 rfl rfl ⟨rfl, rfl, trivial⟩ rfl rfl rfl (FnO.mono (wText_fn b (selfQ b) (.inr rfl) b3 c3 (l ++ eN k ++ eN lv ++ eT inf) t (by simp only [List.length_append]; omega) u ht) ?_)
 rintro v u1 l1 hle1 ⟨rfl, rfl, b4, c4, rfl⟩ -
 refine ⟨⟨fun _ h => h, fun _ h => h, trivial⟩, ?_⟩
 refine Zf (ρ' := [(0, _), (3, _)]) ⟨rfl, rfl, trivial⟩ ?_
 refine Zc (Zd (Za (ym rfl rfl (Zg (Zi rfl Tryz.f30' rfl (by decide) rfl) rfl (Zg (Zl rfl Tryz.k9 rfl rfl rfl (vs := [_]) rfl rfl rfl) rfl (Zt rfl rfl ?_))))))
 refine Zam (caps := []) (ρ' := [(0, _), (3, _)]) [1000, 1001] [] trivial rfl rfl rfl Tryz.c49 rfl rfl ⟨rfl, rfl, trivial⟩ rfl rfl rfl (FnO.mono (wText_fn b (selfQ b) (.inr rfl) b4 c4 (l ++ eN k ++ eN lv ++ eT inf ++ eT t) d (by simp only [List.length_append]; omega) u ht) ?_)
 rintro v u1 l1 hle1 ⟨rfl, rfl, b5, c5, rfl⟩ -
 refine ⟨⟨fun _ h => h, fun _ h => h, trivial⟩, ?_⟩
 refine Zf (ρ' := [(0, _), (3, _)]) ⟨rfl, rfl, trivial⟩ ?_
 refine Zc (Zd (Za (ym rfl rfl (Zg (Zi rfl Tryz.f30' rfl (by decide) rfl) rfl (Zg (Zl rfl Tryz.k9 rfl rfl rfl (vs := [_]) rfl rfl rfl) rfl (Zt rfl rfl ?_))))))
 refine Zam (caps := []) (ρ' := [(0, _), (3, _)]) [1000, 1001] [] trivial rfl rfl rfl Tryz.c49 rfl rfl ⟨rfl, rfl, trivial⟩ rfl rfl rfl (FnO.mono (wText_fn b (selfQ b) (.inr rfl) b5 c5 (l ++ eN k ++ eN lv ++ eT inf ++ eT t ++ eT d) ti (by simp only [List.length_append]; omega) u ht) ?_)
 rintro v u1 l1 hle1 ⟨rfl, rfl, b6, c6, rfl⟩ -
 refine ⟨⟨fun _ h => h, fun _ h => h, trivial⟩, ?_⟩
 refine Zf (ρ' := [(0, _), (3, _)]) ⟨rfl, rfl, trivial⟩ ?_
 refine Zc (Zd (Za (ym rfl rfl (Zg (Zi rfl Tryz.f30' rfl (by decide) rfl) rfl (Zg (Zl rfl Tryz.k27 rfl rfl rfl (vs := [_, _, _]) rfl rfl rfl) rfl (Zt rfl rfl ?_))))))
 refine Zam (caps := []) (ρ' := [(0, _), (3, _)]) [1000, 1001] [] trivial rfl rfl rfl Tryz.c50 rfl rfl ⟨rfl, rfl, trivial⟩ rfl rfl rfl (FnO.mono (wAttr_fn b b6 c6 (l ++ eN k ++ eN lv ++ eT inf ++ eT t ++ eT d ++ eT ti) a _ _ u o6 (by simp only [List.length_append]; omega) ht s1 s2) ?_)
 rintro v u1 l1 hle1 ⟨rfl, rfl, b7, c7, rfl⟩ -
 refine ⟨⟨fun _ h => h, fun _ h => h, trivial⟩, ?_⟩
 refine Zf (ρ' := [(0, _), (3, _)]) ⟨rfl, rfl, trivial⟩ ?_
 refine Zc (Zd (Za (ym rfl rfl (Zg (Zi rfl Tryz.f30' rfl (by decide) rfl) rfl (Zg (Zl rfl Tryz.k22 rfl rfl rfl (vs := [_]) rfl rfl rfl) rfl (Zt rfl rfl ?_))))))
 refine Zam (caps := []) (ρ' := [(0, _), (3, _)]) [1000, 1001] [] trivial rfl rfl rfl Tryz.c51 rfl rfl ⟨rfl, rfl, trivial⟩ rfl rfl rfl (FnO.mono (lineP line b b7 c7 (l ++ eN k ++ eN lv ++ eT inf ++ eT t ++ eT d ++ eT ti ++ eA a) _ u o7 (by simp only [List.length_append]; omega) ht s3) ?_)
 rintro v u1 l1 hle1 ⟨rfl, rfl, b8, c8, rfl⟩ -
 refine ⟨⟨fun _ h => h, fun _ h => h, trivial⟩, ?_⟩
 refine Zf (ρ' := [(0, _), (3, _)]) ⟨rfl, rfl, trivial⟩ ?_
 refine Zc (Zd (Za (ym rfl rfl (Zg (Zi rfl Tryz.f30' rfl (by decide) rfl) rfl (Zg (Zl rfl Tryz.k28 rfl rfl rfl (vs := [_]) rfl rfl rfl) rfl (Zg (Zah rfl rfl Tryz.s28 rfl) rfl (Zt rfl rfl ?_)))))))
 refine Zam (caps := []) (ρ' := [(0, _), (3, _)]) [1000, 1001] [] trivial rfl rfl rfl Tryz.c48 rfl rfl ⟨rfl, rfl, trivial⟩ rfl rfl rfl (FnO.mono (wNumber_fn b (selfQ b) (.inr rfl) b8 c8 (l ++ eN k ++ eN lv ++ eT inf ++ eT t ++ eT d ++ eT ti ++ eA a ++ eL line) kids.length ⟨by omega, by omega⟩ (by simp only [List.length_append]; omega) u ht) ?_)
 rintro v u1 l1 hle1 ⟨rfl, rfl, b9, c9, rfl⟩ -
 refine ⟨⟨fun _ h => h, fun _ h => h, trivial⟩, ?_⟩
 obtain ⟨l1, hl1⟩ : ∃ l1, l1 = l ++ eN k ++ eN lv ++ eT inf ++ eT t ++ eT d ++ eT ti ++ eA a ++ eL line ++ eN kids.length := ⟨_, rfl⟩
 have hl1n := congrArg List.length hl1
 simp only [List.length_append] at hl1n
 rw [← hl1]
 refine Zf (ρ' := [(0, _), (3, _)]) ⟨rfl, rfl, trivial⟩ ?_
 refine Zc (Zd (Za (Zg (Zi rfl Tryz.f30' rfl (by decide) rfl) rfl (Zg (Zl rfl Tryz.k28 rfl rfl rfl (vs := [_]) rfl rfl rfl) rfl (Zg (Zah rfl rfl Tryz.s28 rfl) rfl (ym rfl rfl (Zf (ρ' := [(0, _), (44, _), (45, _), (46, _)]) ⟨rfl, rfl, rfl, rfl, trivial⟩ ?_)))))))
 refine Zc (Zv ?_)
 refine Zas (fun m_0 ρ σ u' => ∃ i : Nat, i + m_0 = kids.length ∧ VLe u u' ∧ ∃ (ac : Option Addr) (cc : Nat), σ = [(1000, (some b, .bt 75 [.pointer (selfQ b), .slice ac (l1 ++ (kids.take i).flatMap eB).length cc])), (1001, (none, .rwv (.slice ac (l1 ++ (kids.take i).flatMap eB).length cc) 5 1 (l1 ++ (kids.take i).flatMap eB).length (bytesC (l1 ++ (kids.take i).flatMap eB))))] ∧ ρ = [(0, .p 1000 0), (44, .v (.slice ac4 kids.length cc4)), (45, .v (.int .i64 kids.length)), (46, .v (.int .i64 i))] ∧ (u = u')) (kids.length) ?_ ?_
 ·
  refine ⟨[(0, _), (44, _), (45, _), (46, _)], [(1000, _), (1001, _)], ⟨rfl, rfl, rfl, rfl, trivial⟩, ⟨rfl, rfl, trivial⟩, 0, by omega, VLe.refl _, b9, c9, (by simp), rfl, ?_⟩
  rfl
 ·
  rintro m ρ σ u' ⟨i, hi11, hle11, ac, cc, rfl, rfl, rfl⟩
  refine Zd (Za (Zg (Zaz rfl rfl rfl) rfl (Zf (ρ' := [(0, _), (44, _), (45, _), (46, _), (47, _)]) ⟨rfl, rfl, rfl, rfl, rfl, trivial⟩ ?_)))
  refine Zc (Zd ?_)
  refine Zr rfl (fun hb11 => ?_) (fun hb11 => ?_)
  ·
   have h11 := of_decide_eq_true hb11
   obtain ⟨x, hx⟩ : ∃ x, kids[i]? = some x := ⟨_, List.getElem?_eq_getElem (by omega)⟩
   have hC := hK.get i x hx
   obtain ⟨k2, lv2, inf2, t2, d2, ti2, a2, line2, kids2⟩ := x
   obtain ⟨vc2, vp2, vl2, vk2, hcut, -⟩ := hC.cells
   have hC2 := hC
   rw [hcut] at hC2
   have oneAll := hC2.one
   have hsn := flat_snoc eB hx
   have hle := flat_le eB kids (i + 1)
   rw [hsn, List.length_append] at hle
   have hxi := hkids _ (List.mem_of_getElem? hx)
   refine Zs (Zc (Zd (Zv (Zd (Za (Zg (Zad rfl Tryz.s28 rfl rfl h4 rfl (by omega)) rfl (Zg (Zac rfl Tryz.k30 rfl h4 (by omega) hcut (vs := [_, _, _, _, _, _, _, _, _, _, _]) rfl rfl rfl rfl) rfl (Zt rfl rfl ?_))))))))
   refine Zaw trivial Tryz.z30 rfl rfl rfl ?_
   refine Zt rfl rfl ?_
   refine Zai trivial rfl Tryz.k30 rfl rfl rfl (vs := [_, _, _, _, _, _, _, _, _, _, _]) rfl rfl (by first | rfl | assumption | simp [Value.oneCell', str]) (Nat.le_of_ble_eq_true rfl) rfl ?_
   refine Zf (ρ' := [(0, _), (5, _), (44, _), (45, _), (46, _)]) ⟨rfl, rfl, rfl, rfl, rfl, trivial⟩ ?_
   refine Zc (Za (ym rfl rfl (Zg (Zl rfl Tryz.k30 rfl rfl rfl (vs := [_, _, _, _, _, _, _, _, _, _, _]) rfl rfl rfl) rfl (Zt rfl rfl ?_))))
   refine Zam (caps := []) (ρ' := [(0, _), (44, _), (45, _), (46, _)]) [1000, 1001] [] trivial rfl rfl rfl Tryz.c47 rfl rfl ⟨rfl, rfl, rfl, rfl, trivial⟩ rfl rfl rfl (FnO.mono (hxi b (selfQ b) (.inr rfl) ac cc (l1 ++ (kids.take i).flatMap eB) _ u (by simp only [List.length_append]; omega) ht hC2) ?_)
   rintro v u1 l1 hle1 ⟨rfl, rfl, d3, e3, rfl⟩ -
   refine ⟨⟨fun _ h => h, fun _ h => h, trivial⟩, ?_⟩
   refine Zf (ρ' := [(0, _), (44, _), (45, _), (46, _)]) ⟨rfl, rfl, rfl, rfl, trivial⟩ ?_
   refine Zaj (Zc (Za (Zg (Zap rfl rfl rfl (Zn (by omega))) rfl ?_)))
   refine ym rfl rfl (Zf (ρ' := [(0, _), (44, _), (45, _), (46, _)]) ⟨rfl, rfl, rfl, rfl, trivial⟩ ?_)
   refine Zae ?_
   refine ⟨m - 1, [(0, _), (44, _), (45, _), (46, _)], [(1000, _), (1001, _)], by omega, ⟨rfl, rfl, rfl, rfl, trivial⟩, ⟨rfl, rfl, trivial⟩, i + 1, by omega, hle11, d3, e3, (by rw [hsn, ← List.append_assoc]), (by first | rfl | simp), ?_⟩
   rfl
  ·
   have h11 := of_decide_eq_false hb11
   rw [List.take_of_length_le (by omega)]
   refine Zao ?_
   refine Zm (Zm ?_)
   refine Zaa ?_
   refine finO0n [1000, 1001]  rfl rfl ?_
   exact ⟨rfl, rfl, ac, cc, by rw [hl1]; simp only [eB, eBs_flat, List.append_assoc]⟩
mutual
theorem blkP : ∀ x, BlkP x
 | .mk k lv inf t d ti a line kids => wBlock_fn k lv inf t d ti a line kids (blksP kids)
theorem blksP : ∀ xs : List Blk, ∀ x ∈ xs, BlkP x
 | [], x, h => by cases h
 | y :: ys, x, h => by
  rcases List.mem_cons.1 h with e | h
  ·
   rw [e]; exact blkP y
  ·
   exact blksP ys x h
end
set_option linter.unusedSimpArgs false
set_option linter.unusedVariables false
set_option maxRecDepth 4000
set_option maxHeartbeats 2000000 in
theorem key_fn (x : Inl) (cs : List Value) (u : View) (hl : (eI x).length ≤ 10000000000) (ht : TabU u) (hcs : InlC u x cs) :
  FnP Tryz.prog 17 [.agg cs.toArray] u fun r u' => r = str (eI x) ∧ u = u' := by
 have hcs2 := hcs
 obtain ⟨k, t, d, ti, a, args, cites, kids⟩ := x
 obtain ⟨vc, vp, va, vt, vk, rfl, ⟨ac1, cc1, rfl, -⟩, ⟨ac2, cc2, rfl, -⟩, ⟨ac3, cc3, rfl, -⟩, ⟨ac4, cc4, rfl, -⟩, ⟨ks, ⟨ac5, cc5, rfl, -⟩, -⟩, -⟩ := hcs2.cells
 refine FnP.intro [.tmp 2] Tryz.func17 rfl rfl rfl ?_
 intro w0 D hw0
 refine Zd (Za (Zt rfl rfl ?_))
 refine do_box trivial rfl (cs := [_, _, _, _, _, _, _, _, _, _]) rfl rfl rfl rfl ?_
 refine ya rfl rfl (Zf (ρ' := [(1, _)]) ⟨rfl, trivial⟩ ?_)
 refine Zc (Zd (Za (Zt rfl rfl ?_)))
 refine do_alloc_t trivial Tryz.z75 rfl rfl rfl ?_
 refine rl_nilW 600 5 1 rfl rfl ?_
 refine Zf (ρ' := [(1, _), (3, _)]) ⟨rfl, rfl, trivial⟩ ?_
 refine Zc (Zd (Za (Zg (Zl rfl Tryz.k49 rfl rfl rfl (vs := [_, _, _, _, _, _, _, _, _, _]) rfl rfl rfl) rfl ?_)))
 refine rl_name 3 rfl ⟨3, _, .inl rfl⟩ ?_
 intro b3
 refine Zt rfl rfl ?_
 refine Zam (caps := []) (ρ' := [(3, _)]) [3, 600] [] trivial rfl rfl rfl Tryz.c30 rfl rfl ⟨rfl, trivial⟩ rfl rfl rfl (FnO.mono (inlP _ b3 none (.inl rfl) none 0 [] _ u (by simp only [List.length_nil]; omega) ht hcs) ?_)
 rintro v uW l1 hleW ⟨rfl, rfl, a2, c2, rfl⟩ -
 refine ⟨⟨fun _ h => h, fun _ h => h, trivial⟩, ?_⟩
 refine Zf (ρ' := [(3, _)]) ⟨rfl, trivial⟩ ?_
 refine Zc (Zd (Za (Zg (Zi rfl Tryz.f75' rfl (by decide) rfl) rfl (Zt rfl rfl ?_))))
 refine Zam (caps := []) (ρ' := []) [3, 600] [] trivial rfl rfl rfl Tryz.c31 rfl rfl trivial rfl rfl rfl (FnO.mono (wString_fn b3 (selfQ b3) a2 c2 _ (by simp only [List.nil_append]; omega) u) ?_)
 rintro v uS l1 hleS ⟨rfl, rfl, o2, rfl⟩ -
 refine ⟨⟨fun _ h => h, fun _ h => h, trivial⟩, ?_⟩
 refine ya rfl rfl (Zf (ρ' := [(2, _)]) ⟨rfl, trivial⟩ ?_)
 refine Zc (Zx (Zau (.tmp rfl) ?_))
 exact ⟨rfl, rfl⟩
def keysL (l : List Blk) : List Bs := l.map eB
theorem keys_snoc {l : List Blk} {i : Nat} {x : Blk} (h : l[i]? = some x) : strsC (keysL (l.take (i + 1))) = strsC (keysL (l.take i)) ++ [str (eB x)] := by
 obtain ⟨hlt, rfl⟩ := List.getElem?_eq_some_iff.1 h
 rw [List.take_succ_eq_append_getElem hlt]
 unfold keysL strsC
 rw [List.map_append, List.map_append]
 rfl
theorem keys_len (l : List Blk) (i : Nat) (h : i ≤ l.length) : (keysL (l.take i)).length = i := by simp [keysL]; omega
set_option maxHeartbeats 4000000 in
theorem keys_fn (l : List Blk) (hln : l.length ≤ 100000) (hl : ∀ x ∈ l, (eB x).length ≤ 10000000000) (v : Value) (u : View) (ht : TabU u) (ha : BlkS u v l) :
  FnP Tryz.prog 28 [v] u fun r u' => StrS u' r (keysL l) := by
 obtain ⟨cs, ⟨aA, cA, rfl, h1⟩, hc1⟩ := ha
 refine FnP.intro [.tmp 2] Tryz.func28 rfl rfl rfl ?_
 intro w0 D hw0
 refine Zd (Za (ya rfl rfl (Zf (ρ' := [(0, _)]) ⟨rfl, trivial⟩ ?_)))
 refine Zc (Zd (Za (ya rfl rfl ?_)))
 refine rl_own_nil 3 503 9 1 rfl rfl rfl ?_
 refine Zf (ρ' := [(0, _), (3, _)]) ⟨rfl, rfl, trivial⟩ ?_
 refine Zc (Zd (Zd (Za (ym rfl rfl (Zg (Zah rfl rfl Tryz.s28 rfl) rfl (ym rfl rfl (Zf (ρ' := [(3, _), (7, _), (8, _), (9, _)]) ⟨rfl, rfl, rfl, rfl, trivial⟩ ?_)))))))
 refine Zc (Zv ?_)
 refine Zas (fun m_0 ρ σ u' => ∃ i : Nat, i + m_0 = l.length ∧ VLe u u' ∧ σ = [(503, (none, .row 9 1 (keysL (l.take i)).length (strsC (keysL (l.take i)))))] ∧ ρ = [(3, .s 503), (7, .v (.slice aA l.length cA)), (8, .v (.int .i64 l.length)), (9, .v (.int .i64 i))] ∧ (u = u')) (l.length) ?_ ?_
 ·
  refine ⟨[(3, _), (7, _), (8, _), (9, _)], [(503, _)], ⟨rfl, rfl, rfl, rfl, trivial⟩, ⟨rfl, trivial⟩, 0, by omega, VLe.refl _, (by first | rfl | simp), (by first | rfl | (simp only [List.cons.injEq, Prod.mk.injEq, SV.v.injEq, Value.int.injEq, true_and, and_true]; omega) | simp), ?_⟩
  rfl
 ·
  rintro m ρ σ u' ⟨i, hi3, hle3, rfl, rfl, rfl⟩
  refine Zd (Za (Zg (Zaz rfl rfl rfl) rfl (Zf (ρ' := [(3, _), (7, _), (8, _), (9, _), (10, _)]) ⟨rfl, rfl, rfl, rfl, rfl, trivial⟩ ?_)))
  refine Zc (Zd ?_)
  refine Zr rfl (fun hb3 => ?_) (fun hb3 => ?_)
  ·
   have h3 := of_decide_eq_true hb3
   obtain ⟨x, hx⟩ : ∃ x, l[i]? = some x := ⟨_, List.getElem?_eq_getElem (by omega)⟩
   have hC := hc1.get i x hx
   have hxl := hl x (List.mem_of_getElem? hx)
   have hT := keys_snoc hx
   have hkl := keys_len l i (by omega)
   have hkl2 := keys_len l (i + 1) (by omega)
   obtain ⟨k, lv, inf, t, d, ti, a, line, kids⟩ := x
   obtain ⟨vc, vp, vl, vk, hcut, -⟩ := hC.cells
   have hC2 := hC
   rw [hcut] at hC2
   have oneAll := hC2.one
   refine Zs (Zc (Zd (Zv (Zd (Za (Zg (Zad rfl Tryz.s28 rfl rfl h1 rfl (by omega)) rfl (Zg (Zac rfl Tryz.k30 rfl h1 (by omega) hcut (vs := [_, _, _, _, _, _, _, _, _, _, _]) rfl rfl rfl rfl) rfl (Zt rfl rfl ?_))))))))
   refine Zaw trivial Tryz.z30 rfl rfl rfl ?_
   refine Zt rfl rfl ?_
   refine Zai trivial rfl Tryz.k30 rfl rfl rfl (vs := [_, _, _, _, _, _, _, _, _, _, _]) rfl rfl (by first | rfl | assumption | simp [Value.oneCell', str]) (Nat.le_of_ble_eq_true rfl) rfl ?_
   refine Zf (ρ' := [(3, _), (5, _), (7, _), (8, _), (9, _)]) ⟨rfl, rfl, rfl, rfl, rfl, trivial⟩ ?_
   refine Zc (Zd (Za (Zt rfl rfl ?_)))
   refine do_alloc_t trivial Tryz.z75 rfl rfl rfl ?_
   refine rl_nilW 600 5 1 rfl rfl ?_
   refine Zf (ρ' := [(3, _), (5, _), (6, _), (7, _), (8, _), (9, _)]) ⟨rfl, rfl, rfl, rfl, rfl, rfl, trivial⟩ ?_
   refine Zc (Zd (Za (Zg (Zl rfl Tryz.k30 rfl rfl rfl (vs := [_, _, _, _, _, _, _, _, _, _, _]) rfl rfl rfl) rfl ?_)))
   refine rl_name 6 rfl ⟨6, _, .inl rfl⟩ ?_
   intro b6
   refine Zt rfl rfl ?_
   refine Zam (caps := []) (ρ' := [(3, _), (6, _), (7, _), (8, _), (9, _)]) [6, 600] [] trivial rfl rfl rfl Tryz.c47 rfl rfl ⟨rfl, rfl, rfl, rfl, rfl, trivial⟩ rfl rfl rfl (FnO.mono (blkP _ b6 none (.inl rfl) none 0 [] _ u (by simp only [List.length_nil]; omega) ht hC2) ?_)
   rintro v uW l1 hleW ⟨rfl, rfl, a2, c2, rfl⟩ -
   refine ⟨⟨fun _ h => h, fun _ h => h, trivial⟩, ?_⟩
   refine Zf (ρ' := [(3, _), (6, _), (7, _), (8, _), (9, _)]) ⟨rfl, rfl, rfl, rfl, rfl, trivial⟩ ?_
   refine Zc (Za (ym rfl rfl (Zg (Zi rfl Tryz.f75' rfl (by decide) rfl) rfl (Zt rfl rfl ?_))))
   refine Zam (caps := []) (ρ' := [(7, _), (8, _), (9, _), (15, _)]) [6, 600] [] trivial rfl rfl rfl Tryz.c31 rfl rfl ⟨rfl, rfl, rfl, rfl, trivial⟩ rfl rfl rfl (FnO.mono (wString_fn b6 (selfQ b6) a2 c2 _ (by simp only [List.nil_append]; omega) u) ?_)
   rintro v uS l1 hleS ⟨rfl, rfl, o2, rfl⟩ -
   refine ⟨⟨fun _ h => h, fun _ h => h, trivial⟩, ?_⟩
   refine Zt rfl rfl ?_
   refine Zag trivial Tryz.s24 Tryz.z9 (ps := [(_, _)]) rfl (xs := [_]) rfl rfl rfl rfl rfl rfl rfl ?_
   refine Zt rfl rfl ?_
   refine Zbg trivial rfl rfl Tryz.s24 Tryz.z9 rfl rfl rfl rfl rfl rfl (by first | rfl | assumption | simp [Value.oneCell', str]) (by omega) (by omega) (ρ' := [(7, _), (8, _), (9, _)]) ⟨rfl, rfl, rfl, trivial⟩ rfl rfl rfl ?_
   refine ya rfl rfl ?_
   refine rl_ren 19 503 rfl rfl rfl ?_
   refine Zf (ρ' := [(3, _), (7, _), (8, _), (9, _)]) ⟨rfl, rfl, rfl, rfl, trivial⟩ ?_
   refine Zaj (Zc (Za (Zg (Zap rfl rfl rfl (Zn (by omega))) rfl ?_)))
   refine ym rfl rfl (Zf (ρ' := [(3, _), (7, _), (8, _), (9, _)]) ⟨rfl, rfl, rfl, rfl, trivial⟩ ?_)
   refine Zae ?_
   refine ⟨m - 1, [(3, _), (7, _), (8, _), (9, _)], [(503, _)], by omega, ⟨rfl, rfl, rfl, rfl, trivial⟩, ⟨rfl, trivial⟩, i + 1, by omega, hle3, (by rw [hT, hkl2, hkl]; rfl), (by first | rfl | simp), ?_⟩
   rfl
  ·
   have h3 := of_decide_eq_false hb3
   rw [List.take_of_length_le (by omega)]
   refine Zao ?_
   refine Zm (Zm ?_)
   refine Zaa ?_
   refine Zc (Zd (Za (ym rfl rfl (ya rfl rfl ?_))))
   refine Zba 503 rfl ?_
   intro ad503 cap503 u503 hle503z hsl503
   refine Zf (ρ' := [(2, _)]) ⟨rfl, trivial⟩ ?_
   refine Zc (Zx (Zau (.tmp rfl) ?_))
   exact ⟨_, _, rfl, hsl503⟩
end Go.Proofs.Ytekkhlepbacapaa
namespace Go.Eng
open Go Go.RowKit
section
variable {F : Fx} {ρ : Env} {σ : Own} {u : View} {Q : Post} {σS : Own} {uS : View} {o : Oper}
end
end Go.Eng
namespace Go.Proofs.Ytekkhlepbacapaa
open Go Go.Eng
set_option linter.unusedSimpArgs false
set_option linter.unusedVariables false
set_option maxRecDepth 4000
def kB : Blk → Int
 | .mk k _ _ _ _ _ _ _ _ => k
def kAt (l : List Blk) (z : Int) : Int := ((l[z.toNat]?).map kB).getD 0
theorem kAt_of {l : List Blk} {z : Int} {x : Blk} (h : l[z.toNat]? = some x) : kAt l z = kB x := by simp [kAt, h]
def blockSteps (a b : List Blk) : List Chg := mrgL (kAt a) (kAt b) (textSteps (sameS (keysL a) (keysL b)) a.length b.length)
def lastC (L : List Chg) : Chg := L.getLast?.getD ⟨0, 0, 0⟩
theorem last_get {L : List Chg} (h : 0 < L.length) : L[L.length - 1]? = some (lastC L) := by
 unfold lastC
 rw [List.getLast?_eq_getElem?]
 simp [List.getElem?_eq_getElem (show L.length - 1 < L.length by omega)]
theorem mrg_yes {ka kb : Int → Int} {L : List Chg} {c : Chg} (h : 0 < L.length) (h2 : (lastC L).kind = 2 ∧ c.kind = 3 ∧ ka (lastC L).src = kb c.dst) : mrg ka kb L c = L.dropLast ++ [⟨4, (lastC L).src, c.dst⟩] := by
 unfold mrg
 have h1 : L.getLast? = some (lastC L) := by rw [List.getLast?_eq_getElem?, last_get h]
 rw [h1]
 simp only
 rw [if_pos h2]
theorem mrg_no {ka kb : Int → Int} {L : List Chg} {c : Chg} (h2 : ¬ (0 < L.length ∧ (lastC L).kind = 2 ∧ c.kind = 3 ∧ ka (lastC L).src = kb c.dst)) : mrg ka kb L c = L ++ [c] := by
 unfold mrg
 by_cases h : 0 < L.length
 ·
  have h1 : L.getLast? = some (lastC L) := by rw [List.getLast?_eq_getElem?, last_get h]
  rw [h1]
  simp only
  rw [if_neg (fun e => h2 ⟨h, e⟩)]
 ·
  have : L = [] := List.eq_nil_of_length_eq_zero (by omega)
  subst this
  rfl
theorem last_split {L : List Chg} (h : 0 < L.length) : L.dropLast ++ [lastC L] = L := by
 have hne : L ≠ [] := fun e => by rw [e] at h; simp at h
 have h1 : lastC L = L.getLast hne := by unfold lastC; rw [List.getLast?_eq_some_getLast hne]; rfl
 rw [h1]
 exact List.dropLast_concat_getLast hne
theorem set_mid (A B C : List Value) (h : B.length = C.length) : setAt (A ++ B) A.length C = A ++ C := by
 rw [setAt_eq _ _ _ (by rw [List.length_append]; omega), List.take_left, ← h, ← List.drop_drop, List.drop_left, List.drop_length, List.append_nil]
theorem set_last {L : List Chg} (h : 0 < L.length) (c : Chg) : setAt (chgsC L) ((L.length - 1) * 3) (chgC c) = chgsC (L.dropLast ++ [c]) := by
 have hl : (L.length - 1) * 3 = (chgsC L.dropLast).length := by rw [chgsC_len, List.length_dropLast]
 have h2 : chgsC L = chgsC L.dropLast ++ chgC (lastC L) := by
  conv => lhs; rw [← last_split h]
  rw [chgsC_app]
  simp [chgsC]
 rw [h2, hl, set_mid _ (chgC (lastC L)) (chgC c) rfl, chgsC_app]
 simp [chgsC]
theorem drop_len {L : List Chg} (h : 0 < L.length) (c : Chg) : (L.dropLast ++ [c]).length = L.length := by
 rw [List.length_append, List.length_dropLast]; simp; omega
theorem chgs_last {L : List Chg} {pk ps pd : Int} (h : 0 < L.length) (e : lastC L = ⟨pk, ps, pd⟩) : cut (chgsC L) ((L.length - 1) * 3) 3 = [.int .i64 pk, .int .i64 ps, .int .i64 pd] := by
 have := chgsC_cut (last_get h)
 rw [e] at this
 exact this
theorem blk_of {l : List Blk} {cs : List Value} {u : View} {z : Int} {n : Nat} (hc : BlksC u l cs) (hn : l.length = n) (h0 : 0 ≤ z) (h1 : z < n) :
  ∃ (j : Nat) (xs : List Value), z = (j : Int) ∧ j < n ∧ cut cs (j * 11) 11 = .int .i64 (kAt l z) :: xs ∧ xs.length = 10 := by
 obtain ⟨j, rfl⟩ : ∃ j : Nat, z = j := ⟨z.toNat, by omega⟩
 have hj : j < l.length := by omega
 obtain ⟨k, lv, inf, t, d, ti, a, line, kids, vc, vp, vl, vk, hg, hcut, -⟩ := hc.at hj
 have hk : kAt l (j : Int) = k := kAt_of (x := .mk k lv inf t d ti a line kids) (by simpa using hg)
 rw [← hk] at hcut
 exact ⟨j, _, rfl, by omega, hcut, rfl⟩
set_option maxHeartbeats 8000000 in
theorem blocks_fn (a b : List Blk) (n m : Nat) (han : a.length = n) (hbm : b.length = m) (hn : n ≤ 31) (hm : m ≤ 31) (hka : ∀ x ∈ a, (eB x).length ≤ 10000000000) (hkb : ∀ x ∈ b, (eB x).length ≤ 10000000000)
  (wa wb va vb : Value) (u : View) (hT : TabU u) (ha : BlkS u va a) (hb : BlkS u vb b) :
  FnP Tryz.prog 13 [.agg #[wa, va], .agg #[wb, vb]] u fun r u' => ChS u' r (blockSteps a b) := by
 have ha2 := ha
 have hb2 := hb
 obtain ⟨csA, ⟨aA, cA, rfl, hA⟩, hcA⟩ := ha2
 obtain ⟨csB, ⟨aB, cB, rfl, hB⟩, hcB⟩ := hb2
 have hkla : (keysL a).length = n := by simp [keysL, han]
 have hklb : (keysL b).length = m := by simp [keysL, hbm]
 refine FnP.intro [.tmp 4] Tryz.func13 rfl rfl rfl ?_
 intro w0 D hw0
 refine Zd (Za (Zt rfl rfl ?_))
 refine do_box trivial rfl (cs := [_, _]) rfl rfl rfl rfl ?_
 refine Zt rfl rfl ?_
 refine do_box trivial rfl (cs := [_, _]) rfl rfl rfl rfl ?_
 refine ya rfl rfl (Zf (ρ' := [(2, _), (3, _)]) ⟨rfl, rfl, trivial⟩ ?_)
 refine Zc (Zd (Za (ya rfl rfl ?_)))
 refine rl_own_nil 5 505 51 3 rfl rfl rfl ?_
 refine Zf (ρ' := [(2, _), (3, _), (5, _)]) ⟨rfl, rfl, rfl, trivial⟩ ?_
 refine Zc (Zd (Zd ?_))
 refine Zbf Tryz.mixed rfl [(2, _), (3, _)] ⟨rfl, rfl, trivial⟩ ?_
 refine Zar 0 rfl (by kernel_rfl) (Zb (Zb (Zw))) (Zi rfl Tryz.f32' rfl (by decide) rfl) rfl ?_
 refine Zar 1 rfl (by kernel_rfl) (Zb (Zb (Zw))) (Zl rfl Tryz.k28 rfl rfl rfl (vs := [_]) rfl rfl rfl) rfl ?_
 refine Zar 3 rfl (by kernel_rfl) (Zb (Zb (Zw))) (Zi rfl Tryz.f32' rfl (by decide) rfl) rfl ?_
 refine Zar 4 rfl (by kernel_rfl) (Zb (Zb (Zw))) (Zl rfl Tryz.k28 rfl rfl rfl (vs := [_]) rfl rfl rfl) rfl ?_
 refine Zar 8 rfl (by kernel_rfl) (Zb (Zb (Zw))) (Zan rfl rfl) rfl ?_
 refine Zbq (i := 2) rfl rfl (by kernel_rfl) ?_
 refine Zbl (caps := []) ⟨rfl, rfl, trivial⟩ rfl rfl Tryz.c28 rfl (FnP.mono (keys_fn a (by omega) hka _ u hT ha) ?_)
 rintro v uK hle0 hk1 hleK
 refine Zbq (i := 5) rfl rfl (by kernel_rfl) ?_
 refine Zbl (caps := []) ⟨rfl, rfl, trivial⟩ rfl rfl Tryz.c28 rfl (FnP.mono (keys_fn b (by omega) hkb _ uK (hT.mono hleK) (hb.mono hleK)) ?_)
 rintro v uM hle0 hk2 hleM
 refine Zbq (i := 6) rfl rfl (by kernel_rfl) ?_
 refine Zbl (caps := []) ⟨rfl, rfl, trivial⟩ rfl rfl Tryz.c12 rfl (FnP.mono (texts_fn (keysL a) (keysL b) n m hkla hklb hn hm _ _ uM (hk1.mono hleM) hk2) ?_)
 rintro v uX hle0 hX hleX
 obtain ⟨l, hl⟩ : ∃ l, l = textSteps (sameS (keysL a) (keysL b)) n m := ⟨_, rfl⟩
 have hok : ∀ c ∈ l, okC n m c := by rw [hl]; exact textSteps_ok _ n m
 have hll : l.length ≤ 62 := by
  have := textSteps_counts (sameS (keysL a) (keysL b)) n m
  rw [hl]; omega
 have hbs : blockSteps a b = mrgL (kAt a) (kAt b) l := by unfold blockSteps; rw [han, hbm, hl]
 rw [← hl] at hX
 obtain ⟨aX, cX, rfl, hX⟩ := hX
 rw [hbs]
 refine Zar 7 rfl (by kernel_rfl) (Zb (Zb (Zw))) (Zah rfl rfl Tryz.s43 rfl) rfl ?_
 refine Zbm (by kernel_rfl) (ρ' := [(2, _), (3, _), (5, _), (17, _), (18, _), (19, _)]) ⟨rfl, rfl, rfl, rfl, rfl, rfl, trivial⟩ ?_
 refine Zc (Zv ?_)
 refine Zas (fun m_0 ρ σ u' => ∃ z : Nat, z + m_0 = l.length ∧ VLe uX u' ∧ σ = [(2, (none, .box [wa, .slice aA a.length cA])), (3, (none, .box [wb, .slice aB b.length cB])), (505, (none, .row 51 3 (mrgL (kAt a) (kAt b) (l.take z)).length (chgsC (mrgL (kAt a) (kAt b) (l.take z)))))] ∧ ρ = [(2, .p 2 0), (3, .p 3 0), (5, .s 505), (17, .v (.slice aX l.length cX)), (18, .v (.int .i64 l.length)), (19, .v (.int .i64 (z : Nat)))] ∧ (True)) (l.length) ?_ ?_
 ·
  refine ⟨[(2, _), (3, _), (5, _), (17, _), (18, _), (19, _)], [(2, _), (3, _), (505, _)], ⟨rfl, rfl, rfl, rfl, rfl, rfl, trivial⟩, ⟨rfl, rfl, rfl, trivial⟩, 0, by omega, VLe.refl _, (by first | rfl | simp), (by first | rfl | (simp only [List.cons.injEq, Prod.mk.injEq, SV.v.injEq, Value.int.injEq, true_and, and_true]; omega) | simp), ?_⟩
  trivial
 ·
  rintro mz ρ σ u' ⟨z, hi3, hle3, rfl, rfl, hinv3⟩
  refine Zd (Za (Zg (Zaz rfl rfl rfl) rfl (Zf (ρ' := [(2, _), (3, _), (5, _), (17, _), (18, _), (19, _), (20, _)]) ⟨rfl, rfl, rfl, rfl, rfl, rfl, rfl, trivial⟩ ?_)))
  refine Zc (Zd ?_)
  refine Zr rfl (fun hb3 => ?_) (fun hb3 => ?_)
  ·
   have h3 := of_decide_eq_true hb3
   obtain ⟨⟨kd, sr, ds⟩, hc⟩ : ∃ c, l[z]? = some c := ⟨_, List.getElem?_eq_getElem (by omega)⟩
   have hcut : cut (chgsC l) (z * 3) 3 = [.int .i64 kd, .int .i64 sr, .int .i64 ds] := chgsC_cut hc
   have hTk := mrgL_take (kAt a) (kAt b) hc
   have hLk := mrgL_ok (ka := kAt a) (kb := kAt b) hok z
   have hLn := mrgL_len (kAt a) (kAt b) l z
   have hcok := hok _ (List.mem_of_getElem? hc)
   obtain ⟨L, hL⟩ : ∃ L, L = mrgL (kAt a) (kAt b) (l.take z) := ⟨_, rfl⟩
   rw [← hL] at hTk hLk hLn ⊢
   obtain ⟨⟨pk, ps, pd⟩, hp⟩ : ∃ p, lastC L = p := ⟨_, rfl⟩
   have hpok : 0 < L.length → okC n m ⟨pk, ps, pd⟩ := fun h => by rw [← hp]; exact hLk _ (List.mem_of_getElem? (last_get h))
   have hXu := hX.mono hle3
   have hmo := (hleK.trans (hleM.trans (hleX.trans hle3)))
   refine Zs (Zc (Zd (Zv (Zd (Za (Zg (Zad rfl Tryz.s43 rfl rfl hXu rfl (by omega)) rfl (Zg (Zac rfl Tryz.k51 rfl hXu (by omega) hcut (vs := [_, _, _]) rfl rfl rfl rfl) rfl (Zt rfl rfl ?_))))))))
   refine Zaw trivial Tryz.z51 rfl rfl rfl ?_
   refine Zt rfl rfl ?_
   refine Zai trivial rfl Tryz.k51 rfl rfl rfl (vs := [_, _, _]) rfl rfl (by first | rfl | assumption | simp [Value.oneCell', str]) (Nat.le_of_ble_eq_true rfl) rfl ?_
   refine Zf (ρ' := [(2, _), (3, _), (5, _), (7, _), (17, _), (18, _), (19, _)]) ⟨rfl, rfl, rfl, rfl, rfl, rfl, rfl, trivial⟩ ?_
   refine Zc (Zd (Za (ym rfl rfl (Zg (y_len_s rfl rfl Tryz.s43 rfl rfl) rfl (ya rfl rfl (Zf (ρ' := [(2, _), (3, _), (5, _), (7, _), (8, _), (17, _), (18, _), (19, _)]) ⟨rfl, rfl, rfl, rfl, rfl, rfl, rfl, rfl, trivial⟩ ?_))))))
   refine Zc ?_
   refine Zbr (fun ρ σ uc11 => VLe u' uc11 ∧ σ = [(2, (none, .box [wa, .slice aA a.length cA])), (3, (none, .box [wb, .slice aB b.length cB])), (7, (none, .box [.int .i64 kd, .int .i64 sr, .int .i64 ds])), (505, (none, .row 51 3 L.length (chgsC L)))] ∧ ρ = [(2, .p 2 0), (3, .p 3 0), (5, .s 505), (7, .p 7 0), (17, .v (.slice aX l.length cX)), (18, .v (.int .i64 l.length)), (19, .v (.int .i64 (z : Nat)))] ∧ (mrg (kAt a) (kAt b) L ⟨kd, sr, ds⟩ = L ++ [⟨kd, sr, ds⟩])) ?_ ?_
   ·
    refine Zd ?_
    refine Zbo 31 (decide (0 < L.length ∧ kd = 3)) (ρk := [(2, _), (3, _), (5, _), (7, _), (8, _), (17, _), (18, _), (19, _)]) ⟨rfl, rfl, rfl, rfl, rfl, rfl, rfl, rfl, trivial⟩ ?_ ?_
    ·
     refine Za (ym rfl rfl (Zg (y_gtr rfl rfl rfl) rfl (ym rfl rfl ?_)))
     refine Zab 27 rfl (fun hg6_2 => ?_) (fun hg6_2 => ?_)
     ·
      refine Zj rfl rfl (Zg (Zi rfl Tryz.f51' rfl (by decide) rfl) rfl (Zj rfl rfl (Zg (Zl rfl Tryz.k3 rfl rfl rfl (vs := [_]) rfl rfl rfl) rfl (Zj rfl rfl (Zg (Zay rfl rfl rfl) rfl (Zg (Zk rfl rfl rfl) rfl ?_))))))
      exact Zal rfl ⟨rfl, rfl, rfl, rfl, rfl, rfl, rfl, rfl, trivial⟩ (by
      first
      | (refine (decide_eq_false fun h => ?_).symm; have := of_decide_eq_false hg6_2; omega)
      | (refine decide_eq_decide.2 ?_; have := of_decide_eq_true hg6_2; omega))
     ·
      iterate 3 refine Zp rfl rfl rfl rfl ?_
      refine Zg (Zo rfl rfl rfl) rfl ?_
      exact Zal rfl ⟨rfl, rfl, rfl, rfl, rfl, rfl, rfl, rfl, trivial⟩ (by
      first
      | (refine (decide_eq_false fun h => ?_).symm; have := of_decide_eq_false hg6_2; omega)
      | (refine decide_eq_decide.2 ?_; have := of_decide_eq_true hg6_2; omega))
    refine Zc ?_
    refine Zr rfl (fun hb6 => ?_) (fun hb6 => ?_)
    ·
     have h6 := of_decide_eq_true hb6
     have hpos := h6.1
     have hcl := chgs_last hpos hp
     have hpok := hpok hpos
     have hcm : cmpB [(0, .i .i64), (1, .i .i64), (2, .i .i64)] [.int .i64 pk, .int .i64 ps, .int .i64 pd] [.int .i64 2, .int .i64 ps, .int .i64 (-1)] = decide (pk = 2 ∧ pd = -1) := by
      show ((pk == 2) && ((ps == ps) && ((pd == -1) && true))) = _
      rw [Bool.eq_iff_iff]
      simp
     refine Zd (Za (ym rfl rfl (ym rfl rfl (Zg (y_sub rfl rfl rfl (Zn (by omega))) rfl ?_))))
     refine Zg (y_index_s rfl Tryz.s43 rfl rfl rfl (j := L.length - 1) (by first | rfl | omega) (by omega)) rfl (Zg (y_load_s rfl Tryz.k51 rfl rfl rfl hcl (vs := [_, _, _]) rfl rfl (by rw [chgsC_len]; omega)) rfl (Zt rfl rfl ?_))
     refine Zaw trivial Tryz.z51 rfl rfl rfl ?_
     refine Zt rfl rfl ?_
     refine Zai trivial rfl Tryz.k51 rfl rfl rfl (vs := [_, _, _]) rfl rfl (by first | rfl | assumption | simp [Value.oneCell', str]) (Nat.le_of_ble_eq_true rfl) rfl ?_
     refine Zf (ρ' := [(2, _), (3, _), (5, _), (7, _), (8, _), (9, _), (17, _), (18, _), (19, _)]) ⟨rfl, rfl, rfl, rfl, rfl, rfl, rfl, rfl, rfl, trivial⟩ ?_
     refine Zc (Zd (Za (Zg (Zl rfl Tryz.k51 rfl rfl rfl (vs := [_, _, _]) rfl rfl rfl) rfl (Zg (Zi rfl Tryz.f51' rfl (by decide) rfl) rfl (Zg (Zl rfl Tryz.k3 rfl rfl rfl (vs := [_]) rfl rfl rfl) rfl (Zg (Zav rfl Tryz.f51' Tryz.z51 (ps := [(_, _), (_, _), (_, _)]) rfl (vs := [_, _, _]) rfl) rfl ?_))))))
     refine Zg (y_eql_flat Tryz.q51 rfl rfl rfl rfl rfl) rfl ?_
     rw [hcm]
     refine ya rfl rfl (Zf (ρ' := [(2, _), (3, _), (5, _), (7, _), (8, _), (9, _), (10, _), (17, _), (18, _), (19, _)]) ⟨rfl, rfl, rfl, rfl, rfl, rfl, rfl, rfl, rfl, rfl, trivial⟩ ?_)
     refine Zc (Zd ?_)
     refine Zbo 59 (decide ((pk = 2 ∧ pd = -1) ∧ kAt a ps = kAt b ds)) (ρk := [(2, _), (3, _), (5, _), (7, _), (8, _), (9, _), (17, _), (18, _), (19, _)]) ⟨rfl, rfl, rfl, rfl, rfl, rfl, rfl, rfl, rfl, trivial⟩ ?_ ?_
     ·
      refine Zbf Tryz.mixed rfl [(2, _), (3, _), (7, _), (9, _)] ⟨rfl, rfl, rfl, rfl, trivial⟩ ?_
      refine Zar 0 rfl (by kernel_rfl) (Zak) (Zan rfl rfl) rfl (Zar 1 rfl (by kernel_rfl) (Zak) (Zan rfl rfl) rfl ?_)
      refine ra_case 43 rfl (fun hg9_1 => ?_) (fun hg9_1 => ?_)
      ·
       refine rk_on 2 rfl rfl rfl (by kernel_rfl) (Zak) (Zi rfl Tryz.f32' rfl (by decide) rfl) rfl ?_
       have h9 := of_decide_eq_true hg9_1
       obtain ⟨jA, xA, hjA, hjA2, hcutA, hxA⟩ := blk_of hcA han (hpok.1 h9.1).1 (hpok.1 h9.1).2.1
       obtain ⟨jB, xB, hjB, hjB2, hcutB, hxB⟩ := blk_of hcB hbm (hcok.2 h6.2).1 (hcok.2 h6.2).2
       refine rk_on 3 rfl rfl rfl (by kernel_rfl) (Zak) (Zl rfl Tryz.k28 rfl rfl rfl (vs := [_]) rfl rfl rfl) rfl ?_
       refine rk_on 4 rfl rfl rfl (by kernel_rfl) (Zak) (Zi rfl Tryz.f51' rfl (by decide) rfl) rfl ?_
       refine rk_on 5 rfl rfl rfl (by kernel_rfl) (Zak) (Zl rfl Tryz.k3 rfl rfl rfl (vs := [_]) rfl rfl rfl) rfl ?_
       refine rk_on 6 rfl rfl rfl (by kernel_rfl) (Zak) (Zad rfl Tryz.s28 rfl rfl (hA.mono hmo) (j := jA) hjA (by omega)) rfl ?_
       refine rk_on 7 rfl rfl rfl (by kernel_rfl) (Zak) (Zbe rfl Tryz.f30' rfl (by decide) rfl) rfl ?_
       refine rk_on 8 rfl rfl rfl (by kernel_rfl) (Zak) (Zac rfl Tryz.k3 rfl (hA.mono hmo) (by omega) hcutA (vs := [_]) rfl rfl rfl rfl) rfl ?_
       refine rk_on 9 rfl rfl rfl (by kernel_rfl) (Zak) (Zi rfl Tryz.f32' rfl (by decide) rfl) rfl ?_
       refine rk_on 10 rfl rfl rfl (by kernel_rfl) (Zak) (Zl rfl Tryz.k28 rfl rfl rfl (vs := [_]) rfl rfl rfl) rfl ?_
       refine rk_on 11 rfl rfl rfl (by kernel_rfl) (Zak) (Zi rfl Tryz.f51' rfl (by decide) rfl) rfl ?_
       refine rk_on 12 rfl rfl rfl (by kernel_rfl) (Zak) (Zl rfl Tryz.k3 rfl rfl rfl (vs := [_]) rfl rfl rfl) rfl ?_
       refine rk_on 13 rfl rfl rfl (by kernel_rfl) (Zak) (Zad rfl Tryz.s28 rfl rfl (hB.mono hmo) (j := jB) hjB (by omega)) rfl ?_
       refine rk_on 14 rfl rfl rfl (by kernel_rfl) (Zak) (Zbe rfl Tryz.f30' rfl (by decide) rfl) rfl ?_
       refine rk_on 15 rfl rfl rfl (by kernel_rfl) (Zak) (Zac rfl Tryz.k3 rfl (hB.mono hmo) (by omega) hcutB (vs := [_]) rfl rfl rfl rfl) rfl ?_
       refine rk_on 16 rfl rfl rfl (by kernel_rfl) (Zak) (Zay rfl rfl rfl) rfl ?_
       refine Zar 17 rfl (by kernel_rfl) (Zak) (Zk rfl rfl rfl) rfl ?_
       exact cutB_endA (by kernel_rfl) rfl ⟨rfl, rfl, rfl, rfl, rfl, rfl, rfl, rfl, rfl, trivial⟩ (by
       first
       | (refine (decide_eq_false fun h => ?_).symm; exact of_decide_eq_false hg9_1 h.1)
       | exact decide_eq_decide.2 ⟨fun h => ⟨of_decide_eq_true hg9_1, h⟩, fun h => h.2⟩)
      ·
       refine Zbd 2 rfl rfl rfl rfl (by kernel_rfl) (Zak) rfl (Zbd 3 rfl rfl rfl rfl (by kernel_rfl) (Zak) rfl (Zbd 4 rfl rfl rfl rfl (by kernel_rfl) (Zak) rfl (Zbd 5 rfl rfl rfl rfl (by kernel_rfl) (Zak) rfl (Zbd 6 rfl rfl rfl rfl (by kernel_rfl) (Zak) rfl (Zbd 7 rfl rfl rfl rfl (by kernel_rfl) (Zak) rfl (Zbd 8 rfl rfl rfl rfl (by kernel_rfl) (Zak) rfl (Zbd 9 rfl rfl rfl rfl (by kernel_rfl) (Zak) rfl ?_)))))))
       refine Zbd 10 rfl rfl rfl rfl (by kernel_rfl) (Zak) rfl (Zbd 11 rfl rfl rfl rfl (by kernel_rfl) (Zak) rfl (Zbd 12 rfl rfl rfl rfl (by kernel_rfl) (Zak) rfl (Zbd 13 rfl rfl rfl rfl (by kernel_rfl) (Zak) rfl (Zbd 14 rfl rfl rfl rfl (by kernel_rfl) (Zak) rfl (Zbd 15 rfl rfl rfl rfl (by kernel_rfl) (Zak) rfl (Zbd 16 rfl rfl rfl rfl (by kernel_rfl) (Zak) rfl ?_))))))
       refine Zar 17 rfl (by kernel_rfl) (Zak) (Zo rfl rfl rfl) rfl ?_
       exact cutB_endA (by kernel_rfl) rfl ⟨rfl, rfl, rfl, rfl, rfl, rfl, rfl, rfl, rfl, trivial⟩ (by
       first
       | (refine (decide_eq_false fun h => ?_).symm; exact of_decide_eq_false hg9_1 h.1)
       | exact decide_eq_decide.2 ⟨fun h => ⟨of_decide_eq_true hg9_1, h⟩, fun h => h.2⟩)
     refine Zc ?_
     refine Zr rfl (fun hb9 => ?_) (fun hb9 => ?_)
     ·
      have h9 := of_decide_eq_true hb9
      have hM : mrg (kAt a) (kAt b) L ⟨kd, sr, ds⟩ = L.dropLast ++ [⟨4, ps, ds⟩] := by
       have := mrg_yes (ka := kAt a) (kb := kAt b) (L := L) (c := ⟨kd, sr, ds⟩) hpos (by rw [hp]; exact ⟨h9.1.1, h6.2, h9.2⟩)
       rw [this, hp]
      have hset : setAt (chgsC L) ((L.length - 1) * 3) [.int .i64 4, .int .i64 ps, .int .i64 ds] = chgsC (L.dropLast ++ [⟨4, ps, ds⟩]) := set_last hpos ⟨4, ps, ds⟩
      refine Zd (Za (ym rfl rfl (ym rfl rfl (Zg (y_sub rfl rfl rfl (Zn (by omega))) rfl ?_))))
      refine Zg (Zi rfl Tryz.f51' rfl (by decide) rfl) rfl (Zg (Zl rfl Tryz.k3 rfl rfl rfl (vs := [_]) rfl rfl rfl) rfl (Zg (Zi rfl Tryz.f51' rfl (by decide) rfl) rfl (Zg (Zl rfl Tryz.k3 rfl rfl rfl (vs := [_]) rfl rfl rfl) rfl (Zg (Zav rfl Tryz.f51' Tryz.z51 (ps := [(_, _), (_, _), (_, _)]) rfl (vs := [_, _, _]) rfl) rfl ?_))))
      refine Zg (y_index_s rfl Tryz.s43 rfl rfl rfl (j := L.length - 1) (by first | rfl | omega) (by omega)) rfl (Zt rfl rfl ?_)
      refine do_store_s trivial rfl Tryz.k51 rfl rfl rfl (vs := [_, _, _]) rfl rfl (by first | rfl | assumption | simp [Value.oneCell', str]) (by rw [chgsC_len]; omega) rfl ?_
      rw [hset]
      refine Zf (ρ' := [(2, _), (3, _), (5, _), (17, _), (18, _), (19, _)]) ⟨rfl, rfl, rfl, rfl, rfl, rfl, trivial⟩ ?_
      refine Zc ?_
      refine Zao ?_
      refine Zm ?_
      refine Zaa ?_
      refine Zc (Za (Zg (Zap rfl rfl rfl (Zn (by omega))) rfl ?_))
      refine ym rfl rfl (Zf (ρ' := [(2, _), (3, _), (5, _), (17, _), (18, _), (19, _)]) ⟨rfl, rfl, rfl, rfl, rfl, rfl, trivial⟩ ?_)
      refine Zae ?_
      refine ⟨mz - 1, [(2, _), (3, _), (5, _), (17, _), (18, _), (19, _)], [(2, _), (3, _), (505, _)], by omega, ⟨rfl, rfl, rfl, rfl, rfl, rfl, trivial⟩, ⟨rfl, rfl, rfl, trivial⟩, z + 1, by omega, (by first | exact hle3 | exact hle3.trans hlc11), (by rw [hTk, hM]; first | (rw [chgsC_app, List.length_append]; rfl) | (rw [drop_len hpos])), (by first | rfl | simp), ?_⟩
      trivial
     ·
      have h9 := of_decide_eq_false hb9
      have hM : mrg (kAt a) (kAt b) L ⟨kd, sr, ds⟩ = L ++ [⟨kd, sr, ds⟩] := mrg_no fun e => by
       rw [hp] at e
       exact h9 ⟨⟨e.2.1, (hpok.1 e.2.1).2.2⟩, e.2.2.2⟩
      refine Zs (Zae ?_)
      refine ⟨[(2, _), (3, _), (5, _), (7, _), (17, _), (18, _), (19, _)], [(2, _), (3, _), (7, _), (505, _)], ⟨rfl, rfl, rfl, rfl, rfl, rfl, rfl, trivial⟩, ⟨rfl, rfl, rfl, rfl, trivial⟩, (VLe.refl _), (by first | rfl | simp), (by first | rfl | (simp only [List.cons.injEq, Prod.mk.injEq, SV.v.injEq, Value.int.injEq, true_and, and_true]; omega) | simp), ?_⟩
      exact hM
    ·
     have h6 := of_decide_eq_false hb6
     have hM : mrg (kAt a) (kAt b) L ⟨kd, sr, ds⟩ = L ++ [⟨kd, sr, ds⟩] := mrg_no fun e => h6 ⟨e.1, e.2.2.1⟩
     refine Zs (Zae ?_)
     refine ⟨[(2, _), (3, _), (5, _), (7, _), (17, _), (18, _), (19, _)], [(2, _), (3, _), (7, _), (505, _)], ⟨rfl, rfl, rfl, rfl, rfl, rfl, rfl, trivial⟩, ⟨rfl, rfl, rfl, rfl, trivial⟩, (VLe.refl _), (by first | rfl | simp), (by first | rfl | (simp only [List.cons.injEq, Prod.mk.injEq, SV.v.injEq, Value.int.injEq, true_and, and_true]; omega) | simp), ?_⟩
     exact hM
   ·
    rintro ρ σ uc11 ⟨hlc11, rfl, rfl, hM⟩
    refine Za (ym rfl rfl (Zg (Zl rfl Tryz.k51 rfl rfl rfl (vs := [_, _, _]) rfl rfl rfl) rfl (Zt rfl rfl ?_)))
    refine Zag trivial Tryz.s43 Tryz.z51 (ps := [(_, _)]) rfl (xs := [_, _, _]) rfl rfl rfl rfl rfl rfl rfl ?_
    refine Zt rfl rfl ?_
    refine Zbg trivial rfl rfl Tryz.s43 Tryz.z51 rfl rfl rfl rfl rfl rfl (by first | rfl | assumption | simp [Value.oneCell', str]) (by omega) (by omega) (ρ' := [(2, _), (3, _), (17, _), (18, _), (19, _)]) ⟨rfl, rfl, rfl, rfl, rfl, trivial⟩ rfl rfl rfl ?_
    refine ya rfl rfl ?_
    refine rl_ren 72 505 rfl rfl rfl ?_
    refine Zf (ρ' := [(2, _), (3, _), (5, _), (17, _), (18, _), (19, _)]) ⟨rfl, rfl, rfl, rfl, rfl, rfl, trivial⟩ ?_
    refine Zaj (Zc (Za (Zg (Zap rfl rfl rfl (Zn (by omega))) rfl ?_)))
    refine ym rfl rfl (Zf (ρ' := [(2, _), (3, _), (5, _), (17, _), (18, _), (19, _)]) ⟨rfl, rfl, rfl, rfl, rfl, rfl, trivial⟩ ?_)
    refine Zae ?_
    refine ⟨mz - 1, [(2, _), (3, _), (5, _), (17, _), (18, _), (19, _)], [(2, _), (3, _), (505, _)], by omega, ⟨rfl, rfl, rfl, rfl, rfl, rfl, trivial⟩, ⟨rfl, rfl, rfl, trivial⟩, z + 1, by omega, (by first | exact hle3 | exact hle3.trans hlc11), (by rw [hTk, hM]; first | (rw [chgsC_app, List.length_append]; rfl) | (rw [drop_len hpos])), (by first | rfl | simp), ?_⟩
    trivial
  ·
   have h3 := of_decide_eq_false hb3
   rw [List.take_of_length_le (by omega)]
   refine Zao ?_
   refine Zm (Zm ?_)
   refine Zaa ?_
   refine Zc (Zd (Za (ym rfl rfl ?_)))
   refine Zba 505 rfl ?_
   intro ad505 cap505 uF hleF hF
   refine ya rfl rfl (Zf (ρ' := [(4, _)]) ⟨rfl, trivial⟩ ?_)
   refine Zc (Zx (Zau (.tmp rfl) ?_))
   exact ⟨_, _, rfl, hF⟩
end Go.Proofs.Ytekkhlepbacapaa
namespace Go.Eng
open Go Go.RowKit
end Go.Eng
namespace Go.Proofs.Ytekkhlepbacapaa
open Go Go.Eng
set_option linter.unusedSimpArgs false
set_option linter.unusedVariables false
set_option maxRecDepth 4000
def attr0 : DAttr := ⟨[], [], []⟩
theorem attrOk0 : AttrOk attr0 := ⟨by decide, ⟨by decide, by simp [attr0]⟩, ⟨by decide, by simp [attr0]⟩⟩
theorem nilSl (u : View) (sz : Nat) : IsSl u (.slice none 0 0) 0 sz [] := ⟨none, 0, rfl, by simp, by decide, by decide, by simp⟩
theorem nilStr (u : View) : StrS u (.slice none 0 0) [] := nilSl u 1
theorem nilPr (u : View) : PrS u (.slice none 0 0) [] := nilSl u 2
theorem nilCi (u : View) : CiS u (.slice none 0 0) [] := nilSl u 4
theorem nilInl (u : View) : InlS u (.slice none 0 0) [] := ⟨[], nilSl u 10, InlsC.nil⟩
theorem nilBlk (u : View) : BlkS u (.slice none 0 0) [] := ⟨[], nilSl u 11, BlksC.nil⟩
theorem intOk_of {k : Int} (h : -1000 ≤ k ∧ k ≤ 1000) : IntOk k := by unfold IntOk; omega
theorem u8_32 {c : UInt8} (h : (c.toNat : Int) = 32) : c = 32 := UInt8.toNat_inj.1 (by show c.toNat = 32; omega)
def trm (s : Bs) : Bs := s.drop (lead true s)
theorem trm_cons (c : UInt8) (s : Bs) : trm (c :: s) = if c = 32 then trm s else c :: s := by
 unfold trm
 by_cases h : c = 32
 ·
  have : sp c = true := by simp [sp, h]
  simp only [lead, if_pos this, if_pos h, List.drop_succ_cons]
 ·
  have : sp c ≠ true := by simp [sp, h]
  simp only [lead, if_neg this, if_neg h, List.drop_zero]
theorem trimLeftB_fn (s : Bs) (hs : s.length ≤ 1000000000) (u : View) : FnP Tryz.prog 33 [str s, .int .u8 32] u fun r _ => r = str (trm s) := by
 refine FnP.intro [.tmp 4] Tryz.func33 rfl rfl rfl ?_
 intro w0 D hw0
 refine Zd (Za (ya rfl rfl (Zf (ρ' := [(0, _), (1, _)]) ⟨rfl, rfl, trivial⟩ ?_)))
 refine Zc (Zd (Zv ?_))
 refine Zas (fun m_0 ρ σ u' => ∃ i : Nat, i + m_0 = s.length ∧ VLe u u' ∧ σ = [] ∧ ρ = [(0, .v (str (s.drop i))), (1, .v (.int .u8 32))] ∧ (u = u' ∧ trm s = trm (s.drop i))) (s.length) ?_ ?_
 ·
  refine ⟨[(0, _), (1, _)], [], ⟨rfl, rfl, trivial⟩, trivial, 0, by omega, VLe.refl _, (by first | rfl | simp), (by first | rfl | (simp only [List.cons.injEq, Prod.mk.injEq, SV.v.injEq, Value.int.injEq, true_and, and_true]; omega) | simp), ?_⟩
  exact ⟨rfl, by simp⟩
 ·
  rintro m ρ σ u' ⟨i, hi1, hle1, rfl, rfl, ⟨rfl, hinv⟩⟩
  refine Zd (Zd ?_)
  have hdl : (s.drop i).length = s.length - i := List.length_drop
  refine Zbo 13 (decide ((s.drop i).head? = some 32)) (ρk := [(0, _), (1, _)]) ⟨rfl, rfl, trivial⟩ ?_ ?_
  ·
   refine Za (ym rfl rfl (Zg (Zaq rfl rfl Tryz.str9 rfl) rfl (Zg (y_gtr rfl rfl rfl) rfl (ym rfl rfl ?_))))
   rcases Bool.eq_false_or_eq_true (decide ((0 : Int) < ((s.drop i).length : Int))) with hg1_3 | hg1_3
   ·
    simp only [hg1_3]
    refine Zj rfl rfl (ym rfl rfl ?_)
    have hlt : i < s.length := by have := of_decide_eq_true hg1_3; omega
    have hc0 : (s.drop i)[0]? = some s[i] := by simp [hlt]
    refine Zj rfl rfl (Zg (Zat rfl Tryz.str9 rfl rfl (j := 0) rfl hc0) rfl (Zj rfl rfl (ym rfl rfl (Zj rfl rfl (Zg (Zay rfl rfl rfl) rfl (Zg (Zk rfl rfl rfl) rfl ?_))))))
    exact Zal rfl ⟨rfl, rfl, trivial⟩ (by first | (rw [List.head?_eq_getElem?, hc0]; exact decide_eq_decide.2 ⟨fun h => by rw [u8_32 h], fun h => by rw [Option.some.inj h]; rfl⟩) | (have hg := of_decide_eq_false hg1_3; rw [List.drop_eq_nil_of_le (by omega)]; rfl))
   ·
    simp only [hg1_3]
    iterate 4 refine Zp rfl rfl rfl rfl ?_
    refine Zg (Zo rfl rfl rfl) rfl ?_
    exact Zal rfl ⟨rfl, rfl, trivial⟩ (by first | (rw [List.head?_eq_getElem?, hc0]; exact decide_eq_decide.2 ⟨fun h => by rw [u8_32 h], fun h => by rw [Option.some.inj h]; rfl⟩) | (have hg := of_decide_eq_false hg1_3; rw [List.drop_eq_nil_of_le (by omega)]; rfl))
  refine Zc ?_
  refine Zr rfl (fun hb1 => ?_) (fun hb1 => ?_)
  ·
   have h1 := of_decide_eq_true hb1
   have hlt : i < s.length := by
    rcases Nat.lt_or_ge i s.length with h | h
    ·
     exact h
    ·
     rw [List.drop_eq_nil_of_le h] at h1; cases h1
   have hd := List.drop_eq_getElem_cons hlt
   rw [hd, List.head?_cons, Option.some.injEq] at h1
   refine Zs (Zc (Zv (Za (ym rfl rfl (Zg (y_slice_str rfl Tryz.str9 rfl (i := 1) (k' := .i64) rfl rfl (by rw [hdl]; omega) (Nat.le_refl _)) rfl (ya rfl rfl (Zf (ρ' := [(0, _), (1, _)]) ⟨rfl, rfl, trivial⟩ ?_)))))))
   refine Zaj (Zae ?_)
   refine ⟨m - 1, [(0, _), (1, _)], [], by omega, ⟨rfl, rfl, trivial⟩, trivial, i + 1, by omega, hle1, rfl, (by rw [show (List.take ((s.drop i).length - 1) ((s.drop i).drop 1)) = s.drop (i + 1) by rw [List.drop_drop, hdl]; exact List.take_of_length_le (by rw [List.length_drop]; omega)]), ?_⟩
   exact ⟨rfl, by rw [hinv, hd, trm_cons, if_pos h1]⟩
  ·
   have h1 := of_decide_eq_false hb1
   refine Zao ?_
   refine Zm (Zm ?_)
   refine Zaa ?_
   refine Zc (Zd (Za (ym rfl rfl (ya rfl rfl (Zf (ρ' := [(4, _)]) ⟨rfl, trivial⟩ ?_)))))
   refine Zc (Zx (Zau (.tmp rfl) ?_))
   rw [hinv]
   congr 1
   cases hs : s.drop i with
   | nil => rfl
   | cons c r => rw [hs, List.head?_cons, Option.some.injEq] at h1; rw [trm_cons, if_neg h1]
theorem trimLeft_fn (s : Bs) (hs : s.length ≤ 1000000000) (u : View) : FnP Tryz.prog 19 [str s, str [32]] u fun r _ => r = str (trm s) := by
 refine FnP.intro [.tmp 4] Tryz.func19 rfl rfl rfl ?_
 intro w0 D hw0
 refine Zd (Za (ya rfl rfl (Zf (ρ' := [(0, _), (1, _)]) ⟨rfl, rfl, trivial⟩ ?_)))
 refine Zc (Zd (Zd ?_))
 refine Zbo 12 (decide (s = [])) (ρk := [(0, _), (1, _)]) ⟨rfl, rfl, trivial⟩ ?_ ?_
 ·
  refine Za (ym rfl rfl (Zg (Zbn rfl rfl rfl) rfl (ym rfl rfl ?_)))
  refine Zab 9 rfl (fun hg1_2 => ?_) (fun hg1_2 => ?_)
  ·
   refine Zp rfl rfl rfl rfl (Zp rfl rfl rfl rfl (Zg (Zk rfl rfl rfl) rfl ?_))
   exact Zal rfl ⟨rfl, rfl, trivial⟩ (by
   first
   | (refine (decide_eq_true ?_).symm; exact of_decide_eq_true hg1_2)
   | (refine (decide_eq_false ?_).symm; exact of_decide_eq_false hg1_2)
   | (have h := of_decide_eq_false hg1_2; rw [decide_eq_false h]; rfl)
   | (have h := of_decide_eq_false hg1_2; rw [decide_eq_false h]; decide))
  ·
   refine Zj rfl rfl (ym rfl rfl (Zj rfl rfl (Zg (Zbn rfl rfl rfl) rfl (Zg (Zo rfl rfl rfl) rfl ?_))))
   exact Zal rfl ⟨rfl, rfl, trivial⟩ (by
   first
   | (refine (decide_eq_true ?_).symm; exact of_decide_eq_true hg1_2)
   | (refine (decide_eq_false ?_).symm; exact of_decide_eq_false hg1_2)
   | (have h := of_decide_eq_false hg1_2; rw [decide_eq_false h]; rfl)
   | (have h := of_decide_eq_false hg1_2; rw [decide_eq_false h]; decide))
 refine Zc ?_
 refine Zr rfl (fun hb1 => ?_) (fun hb1 => ?_)
 ·
  have h1 := of_decide_eq_true hb1
  refine Zd (Za (ym rfl rfl (ya rfl rfl (Zf (ρ' := [(4, _)]) ⟨rfl, trivial⟩ ?_))))
  refine Zc (Zx (Zh (Zau (.tmp rfl) ?_)))
  rw [h1]; rfl
 ·
  have h1 := of_decide_eq_false hb1
  refine Zs (Zc (Zd (Zd ?_)))
  refine Zbo 21 (true) (ρk := [(0, _), (1, _)]) ⟨rfl, rfl, trivial⟩ ?_ ?_
  ·
   refine Za (ym rfl rfl (Zg (Zaq rfl rfl Tryz.str9 rfl) rfl (Zg (Zay rfl rfl rfl) rfl (ym rfl rfl ?_))))
   refine Zab 17 rfl (fun hg3_3 => ?_) (fun hg3_3 => ?_)
   ·
    refine Zj rfl rfl (ym rfl rfl (Zj rfl rfl (Zg (Zat rfl Tryz.str9 rfl rfl (j := 0) (l := [32]) (c := 32) rfl rfl) rfl (Zj rfl rfl (Zg (Zaz rfl rfl rfl) rfl (Zg (Zk rfl rfl rfl) rfl ?_))))))
    exact Zal rfl ⟨rfl, rfl, trivial⟩ (by first | rfl | exact absurd hg3_3 (by decide))
   ·
    iterate 3 refine Zp rfl rfl rfl rfl ?_
    refine Zg (Zo rfl rfl rfl) rfl ?_
    exact Zal rfl ⟨rfl, rfl, trivial⟩ (by first | rfl | exact absurd hg3_3 (by decide))
  refine Zc (Zbc rfl (rfl) (Zd (Za (ym rfl rfl (ym rfl rfl (Zg (Zat rfl Tryz.str9 rfl rfl (j := 0) (l := [32]) (c := 32) rfl rfl) rfl (Zt rfl rfl ?_)))))))
  refine Zu (caps := []) trivial rfl rfl Tryz.c33 rfl (FnP.mono (trimLeftB_fn s hs u) ?_)
  rintro v u1 hle1 rfl
  refine ya rfl rfl (Zf (ρ' := [(4, _)]) ⟨rfl, trivial⟩ ?_)
  refine Zc (Zx (Zh (Zau (.tmp rfl) ?_)))
  rfl
theorem indexB_fn (s : Bs) (u : View) : FnP Tryz.prog 18 [str s, .int .u8 32] u fun r _ => r = .int .i64 (Lib.indexByte s 32) := by
 refine FnP.of_same fun w hA => ?_
 exact Tryz.strings_IndexByte ⟨s.toArray⟩ 32 w
theorem len1_sp {s : Bs} (h : Lib.indexByte s 32 = 0) : (s.length : Int) - (trm s).length = ((len1 s : Nat) : Int) := by
 obtain ⟨h0, -⟩ := Lib.indexByte_some (o := 0) h
 cases s with
 | nil => simp at h0
 | cons c r =>
  have hc : c = 32 := by simpa using h0
  subst hc
  have hl := lead_le true r
  have e1 : len1 (32 :: r) = lead true r + 1 := by simp [len1, sp]
  have e2 : lead true (32 :: r) = lead true r + 1 := by simp [lead, sp]
  unfold trm
  rw [e1, e2, List.length_drop, List.length_cons]
  omega
theorem len1_none {s : Bs} (hs : s ≠ []) (h : Lib.indexByte s 32 < 0) : s.length = len1 s := by
 have hn : Lib.indexByte s 32 = -1 := by have := Lib.indexByte_ge s 32; omega
 have hk := Lib.indexByte_none hn
 refine (len1_of (b := false) (j := s.length) (by have := List.length_pos_iff.2 hs; omega) (Nat.le_refl _) (fun i c hi hc => ?_) (fun c hc => by simp at hc)).symm
 simp only [sp, decide_eq_false_iff_not]
 exact fun e => hk i (by rw [hc, e])
theorem len1_some {s : Bs} {o : Nat} (h : Lib.indexByte s 32 = (o : Int)) (ho : o ≠ 0) : o = len1 s := by
 obtain ⟨h0, hk⟩ := Lib.indexByte_some h
 have hlt := (List.getElem?_eq_some_iff.1 h0).1
 refine (len1_of (b := false) (j := o) (by omega) (by omega) (fun i c hi hc => ?_) (fun c hc => ?_)).symm
 ·
  simp only [sp, decide_eq_false_iff_not]
  exact fun e => hk i hi (by rw [hc, e])
 ·
  rw [h0] at hc
  cases Option.some.inj hc
  simp [sp]
theorem wordsL_take {l : List Inl} {i : Nat} {x : Inl} (h : l[i]? = some x) : wordsL (l.take (i + 1)) = wordsL (l.take i) ++ wordI x := by
 obtain ⟨hlt, rfl⟩ := List.getElem?_eq_some_iff.1 h
 rw [List.take_succ_eq_append_getElem hlt]
 unfold wordsL
 rw [List.flatMap_append]; simp
theorem word_len {x : Inl} (h : smI1 x) : (wordI x).length ≤ 90001 := by
 obtain ⟨k, t, d, ti, a, args, cites, kids⟩ := x
 unfold smI1 NodeSm at h
 show (if k = 1 then runs t else [10 :: eI (.mk k t d ti a args cites kids)]).length ≤ 90001
 split
 ·
  have := runs_len _ t (Nat.le_refl _); omega
 ·
  simp
theorem words_len : ∀ {l : List Inl}, smI l → (wordsL l).length ≤ 90001 * l.length
 | [], _ => by simp [wordsL]
 | x :: l, h => by
  unfold smI at h
  have h1 := word_len h.1
  have h2 := words_len h.2
  unfold wordsL at h2 ⊢
  rw [List.flatMap_cons, List.length_append, List.length_cons]
  omega
theorem words_take_le {l : List Inl} {i : Nat} (hi : i ≤ l.length) : (wordsL (l.take i)).length ≤ (wordsL l).length := by
 conv => rhs; rw [← List.take_append_drop i l]
 unfold wordsL
 rw [List.flatMap_append, List.length_append]; omega
theorem strsC_app (a b : List Bs) : strsC (a ++ b) = strsC a ++ strsC b := by simp [strsC]
set_option maxHeartbeats 8000000 in
theorem words_fn (l : List Inl) (hln : l.length ≤ 1000) (hsm : smI l) (hkl : ∀ x ∈ l, (eI x).length ≤ 10000000000) (v : Value) (u : View) (ht : TabU u) (ha : InlS u v l) :
  FnP Tryz.prog 8 [v] u fun r u' => StrS u' r (wordsL l) := by
 obtain ⟨cs, ⟨aA, cA, rfl, h1⟩, hc1⟩ := ha
 have hwl := words_len hsm
 refine FnP.intro [.tmp 2] Tryz.func8 rfl rfl rfl ?_
 intro w0 D hw0
 refine Zd (Za (ya rfl rfl (Zf (ρ' := [(0, _)]) ⟨rfl, trivial⟩ ?_)))
 refine Zc (Zd (Za (ya rfl rfl ?_)))
 refine rl_own_nil 3 503 9 1 rfl rfl rfl ?_
 refine Zf (ρ' := [(0, _), (3, _)]) ⟨rfl, rfl, trivial⟩ ?_
 refine Zc (Zd (Zd (Za (ym rfl rfl (Zg (Zah rfl rfl Tryz.s22 rfl) rfl (ym rfl rfl (Zf (ρ' := [(3, _), (8, _), (9, _), (10, _)]) ⟨rfl, rfl, rfl, rfl, trivial⟩ ?_)))))))
 refine Zc (Zv ?_)
 refine Zas (fun m_0 ρ σ u' => ∃ i : Nat, i + m_0 = l.length ∧ VLe u u' ∧ σ = [(503, (none, .row 9 1 (wordsL (l.take i)).length (strsC (wordsL (l.take i)))))] ∧ ρ = [(3, .s 503), (8, .v (.slice aA l.length cA)), (9, .v (.int .i64 l.length)), (10, .v (.int .i64 (i : Nat)))] ∧ (u = u')) (l.length) ?_ ?_
 ·
  refine ⟨[(3, _), (8, _), (9, _), (10, _)], [(503, _)], ⟨rfl, rfl, rfl, rfl, trivial⟩, ⟨rfl, trivial⟩, 0, by omega, VLe.refl _, (by first | rfl | simp), (by first | rfl | (simp only [List.cons.injEq, Prod.mk.injEq, SV.v.injEq, Value.int.injEq, true_and, and_true]; omega) | simp), ?_⟩
  rfl
 ·
  rintro m ρ σ u' ⟨i, hi3, hle3, rfl, rfl, rfl⟩
  refine Zd (Za (Zg (Zaz rfl rfl rfl) rfl (Zf (ρ' := [(3, _), (8, _), (9, _), (10, _), (11, _)]) ⟨rfl, rfl, rfl, rfl, rfl, trivial⟩ ?_)))
  refine Zc (Zd ?_)
  refine Zr rfl (fun hb3 => ?_) (fun hb3 => ?_)
  ·
   have h3 := of_decide_eq_true hb3
   obtain ⟨x, hx⟩ : ∃ x, l[i]? = some x := ⟨_, List.getElem?_eq_getElem (by omega)⟩
   have hC := hc1.get i x hx
   have hxl := hkl x (List.mem_of_getElem? hx)
   have hxs := smI_get hsm hx
   have hT := wordsL_take hx
   have hWl := words_take_le (l := l) (i := i) (by omega)
   have hWl2 := words_take_le (l := l) (i := i + 1) (by omega)
   rw [hT, List.length_append] at hWl2
   obtain ⟨W, hW⟩ : ∃ W, W = wordsL (l.take i) := ⟨_, rfl⟩
   rw [← hW] at hT hWl hWl2 ⊢
   obtain ⟨k, t, d, ti, a, args, cites, kids⟩ := x
   obtain ⟨vc, vp, va, vt, vk, hcut, -⟩ := hC.cells
   have hC2 := hC
   rw [hcut] at hC2
   have oneAll := hC2.one
   unfold smI1 NodeSm at hxs
   refine Zs (Zc (Zd (Zv (Zd (Za (Zg (Zad rfl Tryz.s22 rfl rfl h1 rfl (by omega)) rfl (Zg (Zac rfl Tryz.k49 rfl h1 (by omega) hcut (vs := [_, _, _, _, _, _, _, _, _, _]) rfl rfl rfl rfl) rfl (Zt rfl rfl ?_))))))))
   refine Zaw trivial Tryz.z49 rfl rfl rfl ?_
   refine Zt rfl rfl ?_
   refine Zai trivial rfl Tryz.k49 rfl rfl rfl (vs := [_, _, _, _, _, _, _, _, _, _]) rfl rfl (by first | rfl | assumption | simp [Value.oneCell', str]) (Nat.le_of_ble_eq_true rfl) rfl ?_
   refine Zf (ρ' := [(3, _), (5, _), (8, _), (9, _), (10, _)]) ⟨rfl, rfl, rfl, rfl, rfl, trivial⟩ ?_
   refine Zc (Zd (Zd (Za (Zg (Zi rfl Tryz.f49' rfl (by decide) rfl) rfl (Zg (Zl rfl Tryz.k3 rfl rfl rfl (vs := [_]) rfl rfl rfl) rfl (Zg (y_neq rfl rfl rfl) rfl (Zf (ρ' := [(3, _), (5, _), (8, _), (9, _), (10, _), (16, _)]) ⟨rfl, rfl, rfl, rfl, rfl, rfl, trivial⟩ ?_)))))))
   refine Zc ?_
   refine Zr rfl (fun hb5 => ?_) (fun hb5 => ?_)
   ·
    have h5 := of_decide_eq_true hb5
    have hwi : wordI (.mk k t d ti a args cites kids) = [10 :: eI (.mk k t d ti a args cites kids)] := by unfold wordI; exact if_neg h5
    rw [hwi] at hT hWl2
    refine Zd (Za (ym rfl rfl (Zg (Zl rfl Tryz.k49 rfl rfl rfl (vs := [_, _, _, _, _, _, _, _, _, _]) rfl rfl rfl) rfl (Zt rfl rfl ?_))))
    refine Zu (caps := []) trivial rfl rfl Tryz.c17 rfl (FnP.mono (key_fn _ _ u hxl ht hC2) ?_)
    rintro v u1 hle1 ⟨rfl, rfl⟩
    refine Zg (y_str_add (l := [10]) rfl rfl rfl (by simp only [List.length_cons, List.length_nil]; omega)) rfl (Zt rfl rfl ?_)
    refine Zag trivial Tryz.s24 Tryz.z9 (ps := [(_, _)]) rfl (xs := [_]) rfl rfl rfl rfl rfl rfl rfl ?_
    refine Zt rfl rfl ?_
    refine Zbg trivial rfl rfl Tryz.s24 Tryz.z9 rfl rfl rfl rfl rfl rfl (by first | rfl | assumption | simp [Value.oneCell', str]) (by omega) (by omega) (ρ' := [(8, _), (9, _), (10, _)]) ⟨rfl, rfl, rfl, trivial⟩ rfl rfl rfl ?_
    refine ya rfl rfl ?_
    refine rl_ren 22 503 rfl rfl rfl ?_
    refine Zf (ρ' := [(3, _), (8, _), (9, _), (10, _)]) ⟨rfl, rfl, rfl, rfl, trivial⟩ ?_
    refine Zc ?_
    refine Zao ?_
    refine Zm ?_
    refine Zaa ?_
    refine Zc (Za (Zg (Zap rfl rfl rfl (Zn (by omega))) rfl ?_))
    refine ym rfl rfl (Zf (ρ' := [(3, _), (8, _), (9, _), (10, _)]) ⟨rfl, rfl, rfl, rfl, trivial⟩ ?_)
    refine Zae ?_
    refine ⟨m - 1, [(3, _), (8, _), (9, _), (10, _)], [(503, _)], by omega, ⟨rfl, rfl, rfl, rfl, trivial⟩, ⟨rfl, trivial⟩, i + 1, by omega, (VLe.refl _), (by rw [hT] <;> first | rfl | (rw [strsC_app, List.length_append]; rfl)), (by first | rfl | simp), ?_⟩
    rfl
   ·
    have h5 : k = 1 := Decidable.of_not_not (of_decide_eq_false hb5)
    have hwi : wordI (.mk k t d ti a args cites kids) = runs t := by unfold wordI; exact if_pos h5
    rw [hwi] at hT hWl2
    refine Zs (Zc (Zd (Za (Zg (Zi rfl Tryz.f49' rfl (by decide) rfl) rfl (Zg (Zl rfl Tryz.k9 rfl rfl rfl (vs := [_]) rfl rfl rfl) rfl (ya rfl rfl (Zf (ρ' := [(3, _), (6, _), (8, _), (9, _), (10, _)]) ⟨rfl, rfl, rfl, rfl, rfl, trivial⟩ ?_)))))))
    refine Zc (Zv ?_)
    refine Zas (fun m_0 ρ σ u' => ∃ z : Nat, z + m_0 = t.length ∧ VLe u u' ∧ ∃ (p : Nat) (D : List Bs), σ = [(503, (none, .row 9 1 (W ++ D).length (strsC (W ++ D))))] ∧ ρ = [(3, .s 503), (6, .v (str (t.drop p))), (8, .v (.slice aA l.length cA)), (9, .v (.int .i64 l.length)), (10, .v (.int .i64 (i : Nat)))] ∧ (u = u' ∧ z ≤ p ∧ p ≤ t.length ∧ runs t = D ++ runs (t.drop p))) (t.length) ?_ ?_
    ·
     refine ⟨[(3, _), (6, _), (8, _), (9, _), (10, _)], [(503, _)], ⟨rfl, rfl, rfl, rfl, rfl, trivial⟩, ⟨rfl, trivial⟩, 0, by omega, VLe.refl _, 0, [], (by rw [List.append_nil]), rfl, ?_⟩
     exact ⟨rfl, Nat.le_refl _, Nat.zero_le _, rfl⟩
    ·
     rintro mz ρ σ u' ⟨z, hi8, hle8, p, D, rfl, rfl, ⟨rfl, hzp, hpt, hD⟩⟩
     refine Zd (Zd (Za (ym rfl rfl (Zg (Zbj rfl rfl rfl) rfl (Zf (ρ' := [(3, _), (6, _), (8, _), (9, _), (10, _), (26, _)]) ⟨rfl, rfl, rfl, rfl, rfl, rfl, trivial⟩ ?_)))))
     refine Zc ?_
     refine Zr rfl (fun hb8 => ?_) (fun hb8 => ?_)
     ·
      have h8 : t.drop p ≠ [] := of_decide_eq_true hb8
      obtain ⟨S, hS⟩ : ∃ S, S = t.drop p := ⟨_, rfl⟩
      have hSl : S.length = t.length - p := by rw [hS, List.length_drop]
      have hDl := congrArg List.length hD
      rw [List.length_append] at hDl
      rw [← hS] at h8 hD ⊢
      have hDl2 := congrArg List.length hD
      rw [runs_step h8, List.length_append, List.length_cons] at hDl2
      have hl1 := len1_le S
      have hl2 := len1_pos h8
      have hWDl : (W ++ D).length = W.length + D.length := List.length_append
      refine Zs (Zc (Zv (Zd (Za (ym rfl rfl (Zt rfl rfl ?_))))))
      refine Zu (caps := []) trivial rfl rfl Tryz.c18 rfl (FnP.mono (indexB_fn S u) ?_)
      rintro v u1 hle1 rfl
      refine ya rfl rfl (Zf (ρ' := [(3, _), (6, _), (7, _), (8, _), (9, _), (10, _)]) ⟨rfl, rfl, rfl, rfl, rfl, rfl, trivial⟩ ?_)
      refine Zc ?_
      refine Zbr (fun ρ σ uc14 => VLe u uc14 ∧ σ = [(503, (none, .row 9 1 (W ++ D).length (strsC (W ++ D))))] ∧ ρ = [(3, .s 503), (6, .v (str S)), (7, .v (.int .i64 ((len1 S : Nat) : Int))), (8, .v (.slice aA l.length cA)), (9, .v (.int .i64 l.length)), (10, .v (.int .i64 (i : Nat)))] ∧ (u = uc14)) ?_ ?_
      ·
       refine Zd (Za (ym rfl rfl (Zg (Zay rfl rfl rfl) rfl (Zf (ρ' := [(3, _), (6, _), (7, _), (8, _), (9, _), (10, _), (30, _)]) ⟨rfl, rfl, rfl, rfl, rfl, rfl, rfl, trivial⟩ ?_))))
       refine Zc ?_
       refine Zr rfl (fun hb10 => ?_) (fun hb10 => ?_)
       ·
        have h10 := of_decide_eq_true hb10
        refine Za (ym rfl rfl (Zg (Zaq rfl rfl Tryz.str9 rfl) rfl (ym rfl rfl (Zt rfl rfl ?_))))
        refine Zu (caps := []) trivial rfl rfl Tryz.c19 rfl (FnP.mono (trimLeft_fn S (by omega) u) ?_)
        rintro v u1 hle1 rfl
        refine Zg (Zaq rfl rfl Tryz.str9 rfl) rfl (Zg (y_sub rfl rfl rfl (Zn (by have := len1_sp h10; omega))) rfl ?_)
        rw [len1_sp h10]
        refine ya rfl rfl (Zf (ρ' := [(3, _), (6, _), (7, _), (8, _), (9, _), (10, _)]) ⟨rfl, rfl, rfl, rfl, rfl, rfl, trivial⟩ ?_)
        refine Zae ?_
        refine ⟨[(3, _), (6, _), (7, _), (8, _), (9, _), (10, _)], [(503, _)], ⟨rfl, rfl, rfl, rfl, rfl, rfl, trivial⟩, ⟨rfl, trivial⟩, (VLe.refl _), (by first | rfl | simp), (by first | rfl | (simp only [List.cons.injEq, Prod.mk.injEq, SV.v.injEq, Value.int.injEq, true_and, and_true]; omega) | simp), ?_⟩
        rfl
       ·
        have h10 := of_decide_eq_false hb10
        refine Zd (Za (ym rfl rfl (Zg (Zaz rfl rfl rfl) rfl (Zf (ρ' := [(3, _), (6, _), (7, _), (8, _), (9, _), (10, _), (38, _)]) ⟨rfl, rfl, rfl, rfl, rfl, rfl, rfl, trivial⟩ ?_))))
        refine Zc ?_
        refine Zr rfl (fun hb12 => ?_) (fun hb12 => ?_)
        ·
         have h12 := of_decide_eq_true hb12
         refine Za (ym rfl rfl (Zg (Zaq rfl rfl Tryz.str9 rfl) rfl ?_))
         rw [len1_none h8 h12]
         refine ya rfl rfl (Zf (ρ' := [(3, _), (6, _), (7, _), (8, _), (9, _), (10, _)]) ⟨rfl, rfl, rfl, rfl, rfl, rfl, trivial⟩ ?_)
         refine Zae ?_
         refine ⟨[(3, _), (6, _), (7, _), (8, _), (9, _), (10, _)], [(503, _)], ⟨rfl, rfl, rfl, rfl, rfl, rfl, trivial⟩, ⟨rfl, trivial⟩, (VLe.refl _), (by first | rfl | simp), (by first | rfl | (simp only [List.cons.injEq, Prod.mk.injEq, SV.v.injEq, Value.int.injEq, true_and, and_true]; omega) | simp), ?_⟩
         rfl
        ·
         have h12 := of_decide_eq_false hb12
         obtain ⟨o, ho⟩ : ∃ o : Nat, Lib.indexByte S 32 = (o : Int) := ⟨(Lib.indexByte S 32).toNat, by omega⟩
         have ho2 := len1_some ho (fun e => h10 (by rw [ho, e]; rfl))
         rw [ho, ho2]
         refine Zs (Zae ?_)
         refine ⟨[(3, _), (6, _), (7, _), (8, _), (9, _), (10, _)], [(503, _)], ⟨rfl, rfl, rfl, rfl, rfl, rfl, trivial⟩, ⟨rfl, trivial⟩, (VLe.refl _), (by first | rfl | simp), (by first | rfl | (simp only [List.cons.injEq, Prod.mk.injEq, SV.v.injEq, Value.int.injEq, true_and, and_true]; omega) | simp), ?_⟩
         rfl
      ·
       rintro ρ σ uc14 ⟨hlc14, rfl, rfl, rfl⟩
       refine Zd (Za (ym rfl rfl (ym rfl rfl (ym rfl rfl (Zg (y_slice_str rfl Tryz.str9 rfl (i := 0) (j := len1 S) (k := .i64) rfl rfl (by omega) (by omega)) rfl (Zt rfl rfl ?_))))))
       refine Zag trivial Tryz.s24 Tryz.z9 (ps := [(_, _)]) rfl (xs := [_]) rfl rfl rfl rfl rfl rfl rfl ?_
       refine Zt rfl rfl ?_
       refine Zbg trivial rfl rfl Tryz.s24 Tryz.z9 rfl rfl rfl rfl rfl rfl (by first | rfl | assumption | simp [Value.oneCell', str]) (by omega) (by omega) (ρ' := [(6, _), (7, _), (8, _), (9, _), (10, _)]) ⟨rfl, rfl, rfl, rfl, rfl, trivial⟩ rfl rfl rfl ?_
       refine ya rfl rfl ?_
       refine rl_ren 46 503 rfl rfl rfl ?_
       refine Zf (ρ' := [(3, _), (6, _), (7, _), (8, _), (9, _), (10, _)]) ⟨rfl, rfl, rfl, rfl, rfl, rfl, trivial⟩ ?_
       refine Zc (Za (ym rfl rfl (ym rfl rfl (Zg (y_slice_str rfl Tryz.str9 rfl (i := len1 S) (j := S.length) (k' := .i64) rfl rfl (by omega) (by omega)) rfl ?_))))
       rw [show ((S.drop (len1 S)).take (S.length - len1 S)) = t.drop (p + len1 S) by rw [List.take_of_length_le (by rw [List.length_drop]; omega), hS, List.drop_drop]]
       refine ya rfl rfl (Zf (ρ' := [(3, _), (6, _), (8, _), (9, _), (10, _)]) ⟨rfl, rfl, rfl, rfl, rfl, trivial⟩ ?_)
       refine Zaj (Zae ?_)
       refine ⟨mz - 1, [(3, _), (6, _), (8, _), (9, _), (10, _)], [(503, _)], by omega, ⟨rfl, rfl, rfl, rfl, rfl, trivial⟩, ⟨rfl, trivial⟩, z + 1, by omega, (VLe.refl _), p + len1 S, D ++ [S.take (len1 S)], (by rw [← List.append_assoc]; generalize W ++ D = WD; rw [strsC_app, List.length_append]; rfl), (by first | rfl | simp), ?_⟩
       exact ⟨rfl, by omega, by omega, by rw [hD, runs_step h8, hS, List.drop_drop]; simp⟩
     ·
      have h8 : t.drop p = [] := Decidable.of_not_not (of_decide_eq_false hb8)
      rw [h8, runs, List.append_nil] at hD
      rw [hD] at hT
      refine Zao ?_
      refine Zm (Zm ?_)
      refine Zaa ?_
      refine Zaj (Zc (Za (Zg (Zap rfl rfl rfl (Zn (by omega))) rfl ?_)))
      refine ym rfl rfl (Zf (ρ' := [(3, _), (8, _), (9, _), (10, _)]) ⟨rfl, rfl, rfl, rfl, trivial⟩ ?_)
      refine Zae ?_
      refine ⟨m - 1, [(3, _), (8, _), (9, _), (10, _)], [(503, _)], by omega, ⟨rfl, rfl, rfl, rfl, trivial⟩, ⟨rfl, trivial⟩, i + 1, by omega, (VLe.refl _), (by rw [hT] <;> first | rfl | (rw [strsC_app, List.length_append]; rfl)), (by first | rfl | simp), ?_⟩
      rfl
  ·
   have h3 := of_decide_eq_false hb3
   rw [List.take_of_length_le (by omega)]
   refine Zao ?_
   refine Zm (Zm ?_)
   refine Zaa ?_
   refine Zc (Zd (Za (ym rfl rfl ?_)))
   refine Zba 503 rfl ?_
   intro ad503 cap503 uF hleF hF
   refine ya rfl rfl (Zf (ρ' := [(2, _)]) ⟨rfl, trivial⟩ ?_)
   refine Zc (Zx (Zau (.tmp rfl) ?_))
   exact ⟨_, _, rfl, hF⟩
abbrev nilV : Value := .slice none 0 0
theorem tI_C (s : Bs) (hs : s.length ≤ 1000000) (u : View) : InlC u (tI s) (inlV 1 s [] [] [] nilV nilV nilV nilV nilV) :=
 InlC.mk' (nilStr _) (nilPr _) (nilStr _) (nilCi _) (nilInl _) ⟨intOk_of (by decide), by omega, by decide, by decide, attrOk0, ⟨by decide, by simp⟩, ⟨by decide, by simp⟩, by decide⟩
end Go.Proofs.Ytekkhlepbacapaa
