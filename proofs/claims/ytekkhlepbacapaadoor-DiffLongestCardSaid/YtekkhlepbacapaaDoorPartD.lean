/- Texts for a law, part 4: they walk the functions that the law reaches, and state what holds of them; without conditions beyond each theorem's own. -/
import Derived.Test.YtekkhlepbacapaaDoorPartC
import Derived.Lib.LaidTab
import Derived.ChangeMaps5
namespace Go.Proofs.Ytekkhlepbacapaa
open Go Go.Eng
set_option linter.unusedSimpArgs false
set_option linter.unusedVariables false
set_option maxRecDepth 4000
def sameS (a b : List Bs) (i j : Nat) : Bool := decide (a[i]? = b[j]?)
theorem sameI_S {a b : List Bs} {n1 n2 : List Int} {f : Bs → Option Nat} (hinj : ∀ s t n, f s = some n → f t = some n → s = t) (h1l : n1.length = a.length) (h2l : n2.length = b.length)
  (h1 : ∀ (i : Nat) (s : Bs), a[i]? = some s → ∃ n : Nat, n1[i]? = some (n : Int) ∧ f s = some n) (h2 : ∀ (i : Nat) (s : Bs), b[i]? = some s → ∃ n : Nat, n2[i]? = some (n : Int) ∧ f s = some n) : sameI n1 n2 = sameS a b := by
 funext i j
 unfold sameI sameS
 refine decide_eq_decide.2 ?_
 cases ha : a[i]? with
 | none =>
  have e1 : n1[i]? = none := List.getElem?_eq_none (by rw [h1l]; exact List.getElem?_eq_none_iff.1 ha)
  cases hb : b[j]? with
  | none => rw [e1, List.getElem?_eq_none (by rw [h2l]; exact List.getElem?_eq_none_iff.1 hb)]; simp
  | some t =>
   obtain ⟨n, e2, _⟩ := h2 j t hb
   rw [e1, e2]; simp
 | some s =>
  obtain ⟨n, e1, f1⟩ := h1 i s ha
  cases hb : b[j]? with
  | none => rw [e1, List.getElem?_eq_none (by rw [h2l]; exact List.getElem?_eq_none_iff.1 hb)]; simp
  | some t =>
   obtain ⟨n', e2, f2⟩ := h2 j t hb
   rw [e1, e2]
   constructor
   ·
    intro e
    have : n = n' := by have := Option.some.inj e; omega
    subst this
    rw [hinj s t n f1 f2]
   ·
    intro e
    have : s = t := Option.some.inj e
    subst this
    rw [f1] at f2
    cases f2
    rfl
theorem steps_none' {n m : Nat} {W : List (Option Nat)} {x i k : Nat} (h : W[x]? = some none) : stepsOf n m (W.drop x) x i k = stepsOf n m (W.drop (x + 1)) (x + 1) i k := by
 obtain ⟨hlt, he⟩ := List.getElem?_eq_some_iff.1 h
 rw [List.drop_eq_getElem_cons hlt, he]; rfl
theorem steps_some' {n m : Nat} {W : List (Option Nat)} {x i k y : Nat} (h : W[x]? = some (some y)) : stepsOf n m (W.drop x) x i k = goneL i x ++ newL k y ++ sameC x y :: stepsOf n m (W.drop (x + 1)) (x + 1) (x + 1) (y + 1) := by
 obtain ⟨hlt, he⟩ := List.getElem?_eq_some_iff.1 h
 rw [List.drop_eq_getElem_cons hlt, he]; rfl
def noF : Bs → Option Nat := fun _ => none
theorem noF_ok : NumM [] noF := NumM.nil
set_option maxHeartbeats 8000000 in
theorem texts_fn (a b : List Bs) (n m : Nat) (han : a.length = n) (hbm : b.length = m) (hn : n ≤ 31) (hm : m ≤ 31) (va vb : Value) (u : View) (ha : StrS u va a) (hb : StrS u vb b) :
  FnP Tryd.prog 13 [va, vb] u fun r u' => ChS u' r (textSteps (sameS a b) n m) := by
 have ha2 := ha
 have hb2 := hb
 obtain ⟨aA, cA, rfl, hA⟩ := ha2
 obtain ⟨aB, cB, rfl, hB⟩ := hb2
 have hcnt := textSteps_counts (sameS a b) n m
 refine FnP.intro [.tmp 4] Tryd.func13 rfl rfl rfl ?_
 intro w0 D hw0
 refine Ze (Zb (ya rfl rfl (Zf (ρ' := [(0, _), (1, _)]) ⟨rfl, rfl, trivial⟩ ?_)))
 refine Zd (Ze (Zb (Zt rfl rfl ?_)))
 refine do_makeMap trivial rfl rfl rfl ?_
 refine ya rfl rfl (Zf (ρ' := [(0, _), (1, _), (5, _)]) ⟨rfl, rfl, rfl, trivial⟩ ?_)
 refine Zd (Ze (Zb (ym rfl rfl (ym rfl rfl ?_))))
 refine rl_name 13 rfl ⟨14, 0, .inr rfl⟩ ?_
 intro b13
 refine Zt rfl rfl ?_
 refine Zal (caps := []) (ρ' := [(0, _), (1, _), (5, _)]) [13] [] trivial rfl rfl rfl Tryd.c29 rfl rfl ⟨rfl, rfl, rfl, trivial⟩ rfl rfl rfl (FnO.mono (numbers_fn b13 [] noF noF_ok (by simp) a (by omega) _ u ⟨_, _, rfl, hA⟩) ?_)
 rintro v uA l1 hleA ⟨kv1, f1, n1, rfl, hM1, hx1, hk1, hs1, hl1, hi1⟩ -
 refine ⟨⟨fun _ h => h, trivial⟩, ?_⟩
 refine ym rfl rfl (ym rfl rfl (Zt rfl rfl ?_))
 refine Zal (caps := []) (ρ' := [(0, _), (1, _), (16, _)]) [13] [] trivial rfl rfl rfl Tryd.c29 rfl rfl ⟨rfl, rfl, rfl, trivial⟩ rfl rfl rfl (FnO.mono (numbers_fn b13 kv1 f1 hM1 (by simp at hk1; omega) b (by omega) _ uA ⟨_, _, rfl, hB.mono hleA⟩) ?_)
 rintro v uB l1 hleB ⟨kv2, f2, n2, rfl, hM2, hx2, hk2, hs2, hl2, hi2⟩ -
 refine ⟨⟨fun _ h => h, trivial⟩, ?_⟩
 refine Zt rfl rfl ?_
 refine Zba (caps := []) trivial rfl rfl Tryd.c28 rfl (FnP.mono (matching_fn n1 n2 n m (by omega) (by omega) hn hm _ _ uB (by rw [← han]; exact hs1.mono hleB) (by rw [← hbm]; exact hs2)) ?_)
 rintro v uW hle0 hw hleW
 have hsm : sameI n1 n2 = sameS a b := sameI_S hM2.inj hl1 hl2 (fun i s h => by
  obtain ⟨k, e1, e2⟩ := hi1 i s h
  exact ⟨k, e1, hx2 _ _ e2⟩) hi2
 rw [hsm] at hw
 obtain ⟨aW, cW, rfl, hW⟩ := hw
 obtain ⟨W, hWd⟩ : ∃ W, W = mat (sameS a b) n m := ⟨_, rfl⟩
 have hWl : W.length = n := by rw [hWd, mat_len]
 have hWy : ∀ (t y : Nat), W[t]? = some (some y) → y < m := fun t y h => by rw [hWd] at h; exact mat_lt h
 rw [← hWd] at hW
 refine ya rfl rfl (Zf (ρ' := [(0, _), (1, _), (6, _)]) ⟨rfl, rfl, rfl, trivial⟩ ?_)
 refine Zd (Ze (Zb ?_))
 refine rl_nilW 600 51 3 rfl rfl ?_
 refine Zt rfl rfl ?_
 refine Zau trivial Tryd.z26 rfl rfl rfl ?_
 refine Zf (ρ' := [(0, _), (1, _), (6, _), (7, _)]) ⟨rfl, rfl, rfl, rfl, trivial⟩ ?_
 refine Zd (Ze (Zb (Zt rfl rfl ?_)))
 refine Zau trivial Tryd.z3 rfl rfl rfl ?_
 refine Zt rfl rfl ?_
 refine Zau trivial Tryd.z3 rfl rfl rfl ?_
 refine Zt rfl rfl ?_
 refine Zao trivial rfl Tryd.k3 rfl rfl rfl (vs := [_]) rfl rfl (by first | rfl | assumption | simp [Value.oneCell', str]) (Nat.le_of_ble_eq_true rfl) rfl ?_
 refine Zt rfl rfl ?_
 refine Zao trivial rfl Tryd.k3 rfl rfl rfl (vs := [_]) rfl rfl (by first | rfl | assumption | simp [Value.oneCell', str]) (Nat.le_of_ble_eq_true rfl) rfl ?_
 refine Zf (ρ' := [(0, _), (1, _), (6, _), (7, _), (8, _), (9, _)]) ⟨rfl, rfl, rfl, rfl, rfl, rfl, trivial⟩ ?_
 refine Zd (Ze (Zb ?_))
 refine rl_name 8 rfl ⟨8, _, .inl rfl⟩ ?_
 intro b8
 refine rl_name 7 rfl ⟨7, _, .inl rfl⟩ ?_
 intro b7
 refine rl_name 9 rfl ⟨9, _, .inl rfl⟩ ?_
 intro b9
 refine Zg (y_makeFunc rfl rfl rfl) rfl (ya rfl rfl (Zf (ρ' := [(0, _), (1, _), (6, _), (7, _), (8, _), (9, _), (10, _)]) ⟨rfl, rfl, rfl, rfl, rfl, rfl, rfl, trivial⟩ ?_))
 refine Zd (Ze (Ze (Zb (ym rfl rfl (Zg (Zx rfl rfl Tryd.s58 rfl) rfl (ym rfl rfl (Zf (ρ' := [(0, _), (1, _), (7, _), (8, _), (9, _), (10, _), (22, _), (23, _), (24, _)]) ⟨rfl, rfl, rfl, rfl, rfl, rfl, rfl, rfl, rfl, trivial⟩ ?_)))))))
 refine Zd (Zq ?_)
 refine Zaq (fun m_0 ρ σ u' => ∃ x : Nat, x + m_0 = n ∧ VLe uW u' ∧ ∃ (L : List Chg) (i0 k0 : Nat) (ac : Option Addr) (cc : Nat), σ = [(7, (some b7, .box [.slice ac L.length cc])), (8, (some b8, .box [.int .i64 (i0 : Nat)])), (9, (some b9, .box [.int .i64 (k0 : Nat)])), (600, (none, .rwv (.slice ac L.length cc) 51 3 L.length (chgsC L)))] ∧ ρ = [(0, .v (.slice aA a.length cA)), (1, .v (.slice aB b.length cB)), (7, .p 7 0), (8, .p 8 0), (9, .p 9 0), (10, .v (.func (.func 30) #[] #[.pointer (some ⟨b8, 0, none⟩), .pointer (some ⟨b7, 0, none⟩), .pointer (some ⟨b9, 0, none⟩)])), (22, .v (.slice aW n cW)), (23, .v (.int .i64 n)), (24, .v (.int .i64 x))] ∧ (i0 ≤ n ∧ k0 ≤ m ∧ textSteps (sameS a b) n m = L ++ stepsOf n m (W.drop x) x i0 k0)) (n) ?_ ?_
 ·
  refine ⟨[(0, _), (1, _), (7, _), (8, _), (9, _), (10, _), (22, _), (23, _), (24, _)], [(7, _), (8, _), (9, _), (600, _)], ⟨rfl, rfl, rfl, rfl, rfl, rfl, rfl, rfl, rfl, trivial⟩, ⟨rfl, rfl, rfl, rfl, trivial⟩, 0, by omega, VLe.refl _, [], 0, 0, _, _, (by first | rfl | simp), (by first | rfl | (simp only [List.cons.injEq, Prod.mk.injEq, SV.v.injEq, Value.int.injEq, true_and, and_true]; omega) | simp), ?_⟩
  exact ⟨by omega, by omega, by rw [hWd]; rfl⟩
 ·
  rintro mx ρ σ u' ⟨x, hi7, hle7, L, i0, k0, ac, cc, rfl, rfl, ⟨hi0, hk0, hst⟩⟩
  refine Ze (Zb (Zg (Zav rfl rfl rfl) rfl (Zf (ρ' := [(0, _), (1, _), (7, _), (8, _), (9, _), (10, _), (22, _), (23, _), (24, _), (25, _)]) ⟨rfl, rfl, rfl, rfl, rfl, rfl, rfl, rfl, rfl, rfl, trivial⟩ ?_)))
  refine Zd (Ze ?_)
  refine Zw rfl (fun hb7 => ?_) (fun hb7 => ?_)
  ·
   have h7 := of_decide_eq_true hb7
   obtain ⟨o, ho⟩ : ∃ o, W[x]? = some o := ⟨_, List.getElem?_eq_getElem (by omega)⟩
   have hcut := intC_cut (l := W.map optI) (t := x) (x := optI o) (by simp [ho])
   have hWu := hW.mono hle7
   have hLl : L.length ≤ 62 := by
    have := congrArg List.length hst
    rw [List.length_append] at this
    omega
   refine Zv (Zd ?_)
   refine wc_cut (fun ρ σ uc13 => ∃ (L3 : List Chg) (i2 k2 : Nat) (ac2 : Option Addr) (cc2 : Nat), VLe u' uc13 ∧ σ = [(7, (some b7, .box [.slice ac2 L3.length cc2])), (8, (some b8, .box [.int .i64 (i2 : Nat)])), (9, (some b9, .box [.int .i64 (k2 : Nat)])), (600, (none, .rwv (.slice ac2 L3.length cc2) 51 3 L3.length (chgsC L3)))] ∧ ρ = [(0, .v (.slice aA a.length cA)), (1, .v (.slice aB b.length cB)), (7, .p 7 0), (8, .p 8 0), (9, .p 9 0), (10, .v (.func (.func 30) #[] #[.pointer (some ⟨b8, 0, none⟩), .pointer (some ⟨b7, 0, none⟩), .pointer (some ⟨b9, 0, none⟩)])), (22, .v (.slice aW n cW)), (23, .v (.int .i64 n)), (24, .v (.int .i64 x))] ∧ (i2 ≤ n ∧ k2 ≤ m ∧ textSteps (sameS a b) n m = L3 ++ stepsOf n m (W.drop (x + 1)) (x + 1) i2 k2)) ?_ ?_
   ·
    refine Zq (Ze (Zb (ym rfl rfl (Zg (Zs rfl Tryd.s58 rfl rfl hWu rfl (by omega)) rfl (Zg (Zr rfl Tryd.k3 rfl hWu (by omega) hcut (vs := [_]) rfl rfl rfl rfl) rfl (ya rfl rfl (ya rfl rfl (Zf (ρ' := [(0, _), (1, _), (7, _), (8, _), (9, _), (10, _), (11, _), (12, _), (22, _), (23, _), (24, _)]) ⟨rfl, rfl, rfl, rfl, rfl, rfl, rfl, rfl, rfl, rfl, rfl, trivial⟩ ?_))))))))
    refine Zd (Ze (Zb (ym rfl rfl (Zg (y_geq rfl rfl rfl) rfl (Zf (ρ' := [(0, _), (1, _), (7, _), (8, _), (9, _), (10, _), (11, _), (12, _), (22, _), (23, _), (24, _), (30, _)]) ⟨rfl, rfl, rfl, rfl, rfl, rfl, rfl, rfl, rfl, rfl, rfl, rfl, trivial⟩ ?_)))))
    refine Zd ?_
    refine Zw rfl (fun hb9 => ?_) (fun hb9 => ?_)
    ·
     obtain ⟨y, rfl⟩ : ∃ y, o = some y := by
      cases o with
      | none => exact absurd (of_decide_eq_true hb9) (by decide)
      | some y => exact ⟨y, rfl⟩
     have hy := hWy x y ho
     rw [steps_some' ho] at hst
     refine Ze (Zb (ym rfl rfl (ym rfl rfl (ym rfl rfl (Zt rfl rfl ?_)))))
     refine Zal (caps := [.pointer (some ⟨b8, 0, none⟩), .pointer (some ⟨b7, 0, none⟩), .pointer (some ⟨b9, 0, none⟩)]) (ρ' := [(0, _), (1, _), (7, _), (8, _), (9, _), (10, _), (11, _), (12, _), (22, _), (23, _), (24, _)]) [8, 7, 9, 600] [] trivial rfl rfl rfl Tryd.c30 rfl rfl ⟨rfl, rfl, rfl, rfl, rfl, rfl, rfl, rfl, rfl, rfl, rfl, trivial⟩ rfl rfl rfl (FnO.mono (gap_fn b8 b7 b9 i0 k0 x y L ac cc (by omega) (by omega) (by omega) (by omega) (by omega) u') ?_)
     rintro v uG l1 hleG ⟨a10, c10, rfl⟩ -
     refine ⟨⟨fun _ h => h, fun _ h => h, fun _ h => h, fun _ h => h, trivial⟩, ?_⟩
     refine Zf (ρ' := [(0, _), (1, _), (7, _), (8, _), (9, _), (10, _), (11, _), (12, _), (22, _), (23, _), (24, _)]) ⟨rfl, rfl, rfl, rfl, rfl, rfl, rfl, rfl, rfl, rfl, rfl, trivial⟩ ?_
     refine Zd (Ze ?_)
     obtain ⟨L2, hL2⟩ : ∃ L2, L2 = L ++ goneL i0 x ++ newL k0 y := ⟨_, rfl⟩
     have hL2l : L2.length ≤ 200 := by rw [hL2, List.length_append, List.length_append, goneL_len, newL_len]; omega
     rw [← hL2]
     have hst2 : textSteps (sameS a b) n m = (L2 ++ [sameC x y]) ++ stepsOf n m (W.drop (x + 1)) (x + 1) (x + 1) (y + 1) := by rw [hst, hL2]; simp
     refine Zb (Zg (Zl rfl Tryd.k26 rfl rfl rfl (vs := [_]) rfl rfl rfl) rfl (ym rfl rfl (ym rfl rfl (Zg (Zbh rfl Tryd.f51' Tryd.z51 (ps := [(_, _), (_, _), (_, _)]) rfl (vs := [_, _, _]) rfl) rfl ?_))))
     refine Zt rfl rfl ?_
     refine Zai trivial Tryd.s26 Tryd.z51 (ps := [(_, _)]) rfl (xs := [_, _, _]) rfl rfl rfl rfl rfl rfl rfl ?_
     refine Zt rfl rfl ?_
     refine Zbs 600 trivial rfl rfl Tryd.s26 Tryd.z51 rfl rfl rfl rfl rfl rfl (by first | rfl | assumption | simp [Value.oneCell', str]) (by omega) (by omega) rfl rfl ?_
     intro ad40 cap40
     refine Zt rfl rfl ?_
     refine Zao trivial rfl Tryd.k26 rfl rfl rfl (vs := [_]) rfl rfl (by first | rfl | assumption | simp [Value.oneCell', str]) (Nat.le_of_ble_eq_true rfl) rfl ?_
     refine Zf (ρ' := [(0, _), (1, _), (7, _), (8, _), (9, _), (10, _), (11, _), (12, _), (22, _), (23, _), (24, _)]) ⟨rfl, rfl, rfl, rfl, rfl, rfl, rfl, rfl, rfl, rfl, rfl, trivial⟩ ?_
     refine Zd (Zb (ym rfl rfl (Zg (Zap rfl rfl rfl (Zk (by omega))) rfl ?_)))
     refine ym rfl rfl (Zg (Zap (r := (y : Int) + 1) rfl rfl rfl (Zk (e := (y : Int) + 1) (by omega))) rfl ?_)
     refine Zt rfl rfl ?_
     refine Zao trivial rfl Tryd.k3 rfl rfl rfl (vs := [_]) rfl rfl (by first | rfl | assumption | simp [Value.oneCell', str]) (Nat.le_of_ble_eq_true rfl) rfl ?_
     refine Zt rfl rfl ?_
     refine Zao trivial rfl Tryd.k3 rfl rfl rfl (vs := [_]) rfl rfl (by first | rfl | assumption | simp [Value.oneCell', str]) (Nat.le_of_ble_eq_true rfl) rfl ?_
     refine Zf (ρ' := [(0, _), (1, _), (7, _), (8, _), (9, _), (10, _), (22, _), (23, _), (24, _)]) ⟨rfl, rfl, rfl, rfl, rfl, rfl, rfl, rfl, rfl, trivial⟩ ?_
     refine Zah (Zab ?_)
     first
      | (refine ⟨[(0, _), (1, _), (7, _), (8, _), (9, _), (10, _), (22, _), (23, _), (24, _)], [(7, _), (8, _), (9, _), (600, _)], ⟨rfl, rfl, rfl, rfl, rfl, rfl, rfl, rfl, rfl, trivial⟩, ⟨rfl, rfl, rfl, rfl, trivial⟩, L, i0, k0, _, _, (VLe.refl _), (by first | rfl | (rw [chgsC_app, List.length_append]; rfl)), (by first | rfl | simp), ?_⟩
         exact ⟨hi0, hk0, hst⟩)
      | (refine ⟨[(0, _), (1, _), (7, _), (8, _), (9, _), (10, _), (22, _), (23, _), (24, _)], [(7, _), (8, _), (9, _), (600, _)], ⟨rfl, rfl, rfl, rfl, rfl, rfl, rfl, rfl, rfl, trivial⟩, ⟨rfl, rfl, rfl, rfl, trivial⟩, L2 ++ [sameC x y], x + 1, y + 1, _, _, hleG, (by first | rfl | (rw [chgsC_app, List.length_append]; rfl)), (by first | rfl | simp), ?_⟩
         exact ⟨by omega, by omega, hst2⟩)
    ·
     obtain rfl : o = none := by
      cases o with
      | none => rfl
      | some y => exact absurd (Int.natCast_nonneg y) (of_decide_eq_false hb9)
     rw [steps_none' ho] at hst
     refine Zv (Zah (Zab ?_))
     first
      | (refine ⟨[(0, _), (1, _), (7, _), (8, _), (9, _), (10, _), (22, _), (23, _), (24, _)], [(7, _), (8, _), (9, _), (600, _)], ⟨rfl, rfl, rfl, rfl, rfl, rfl, rfl, rfl, rfl, trivial⟩, ⟨rfl, rfl, rfl, rfl, trivial⟩, L, i0, k0, _, _, (VLe.refl _), (by first | rfl | (rw [chgsC_app, List.length_append]; rfl)), (by first | rfl | simp), ?_⟩
         exact ⟨hi0, hk0, hst⟩)
      | (refine ⟨[(0, _), (1, _), (7, _), (8, _), (9, _), (10, _), (22, _), (23, _), (24, _)], [(7, _), (8, _), (9, _), (600, _)], ⟨rfl, rfl, rfl, rfl, rfl, rfl, rfl, rfl, rfl, trivial⟩, ⟨rfl, rfl, rfl, rfl, trivial⟩, L2 ++ [sameC x y], x + 1, y + 1, _, _, hleG, (by first | rfl | (rw [chgsC_app, List.length_append]; rfl)), (by first | rfl | simp), ?_⟩
         exact ⟨by omega, by omega, hst2⟩)
   ·
    rintro ρ σ uc13 ⟨L3, i2, k2, ac2, cc2, hlc13, rfl, rfl, ⟨hi2', hk2', hst3⟩⟩
    refine Zb (Zg (Zap rfl rfl rfl (Zk (by omega))) rfl ?_)
    refine ym rfl rfl (Zf (ρ' := [(0, _), (1, _), (7, _), (8, _), (9, _), (10, _), (22, _), (23, _), (24, _)]) ⟨rfl, rfl, rfl, rfl, rfl, rfl, rfl, rfl, rfl, trivial⟩ ?_)
    refine Zab ?_
    refine ⟨mx - 1, [(0, _), (1, _), (7, _), (8, _), (9, _), (10, _), (22, _), (23, _), (24, _)], [(7, _), (8, _), (9, _), (600, _)], by omega, ⟨rfl, rfl, rfl, rfl, rfl, rfl, rfl, rfl, rfl, trivial⟩, ⟨rfl, rfl, rfl, rfl, trivial⟩, x + 1, by omega, (hle7.trans hlc13), L3, i2, k2, _, _, (by first | rfl | simp), (by first | rfl | (simp only [List.cons.injEq, Prod.mk.injEq, SV.v.injEq, Value.int.injEq, true_and, and_true]; omega) | simp), ?_⟩
    exact ⟨hi2', hk2', hst3⟩
  ·
   have h7 := of_decide_eq_false hb7
   have hLl : L.length ≤ 62 := by
    have := congrArg List.length hst
    rw [List.length_append] at this
    omega
   rw [List.drop_of_length_le (by omega)] at hst
   refine Zan ?_
   refine Zh (Zh ?_)
   refine Zu ?_
   refine Zd (Ze (Zb (ym rfl rfl (ym rfl rfl (Zg (Zx rfl rfl Tryd.s22 rfl) rfl (ym rfl rfl (Zg (Zx rfl rfl Tryd.s22 rfl) rfl (Zt rfl rfl ?_))))))))
   refine Zal (caps := [.pointer (some ⟨b8, 0, none⟩), .pointer (some ⟨b7, 0, none⟩), .pointer (some ⟨b9, 0, none⟩)]) (ρ' := [(7, _)]) [8, 7, 9, 600] [] trivial rfl rfl rfl Tryd.c30 rfl rfl ⟨rfl, trivial⟩ rfl rfl rfl (FnO.mono (gap_fn b8 b7 b9 i0 k0 a.length b.length L ac cc (by omega) (by omega) (by omega) (by omega) (by omega) u') ?_)
   rintro v uH l1 hleH ⟨a14, c14, rfl⟩ -
   refine ⟨⟨fun _ h => h, fun _ h => h, fun _ h => h, fun _ h => h, trivial⟩, ?_⟩
   refine Zf (ρ' := [(7, _)]) ⟨rfl, trivial⟩ ?_
   refine Zd (Ze (Zb (Zg (Zl rfl Tryd.k26 rfl rfl rfl (vs := [_]) rfl rfl rfl) rfl (ya rfl rfl ?_))))
   refine Zbj 600 rfl ?_
   intro uF hleF hF
   refine Zf (ρ' := [(4, _)]) ⟨rfl, trivial⟩ ?_
   refine Zd (Zaj (Zbf (.tmp rfl) ?_))
   have he : textSteps (sameS a b) n m = L ++ goneL i0 a.length ++ newL k0 b.length := by rw [hst, han, hbm, stepsOf, List.append_assoc]
   rw [he]
   exact hF
theorem lenL_take {l : List Chg} {i : Nat} {c : Chg} (h : l[i]? = some c) : lenL (l.take (i + 1)) = lenL (l.take i) + lenC c := by
 obtain ⟨hlt, rfl⟩ := List.getElem?_eq_some_iff.1 h
 rw [List.take_succ_eq_append_getElem hlt]
 simp only [lenL, List.map_append, List.sum_append, List.map_cons, List.map_nil, List.sum_cons, List.sum_nil, Nat.add_zero]
theorem lenC_le (c : Chg) : lenC c ≤ 2 := by
 unfold lenC
 split
 ·
  omega
 ·
  split <;> omega
theorem lenL_le (l : List Chg) : lenL l ≤ 2 * l.length := by
 induction l with
 | nil => simp [lenL]
 | cons c l ih =>
  have := lenC_le c
  simp only [lenL, List.map_cons, List.sum_cons, List.length_cons] at ih ⊢
  omega
theorem patchL_take {a b : List Bs} {l : List Chg} {i : Nat} {c : Chg} (h : l[i]? = some c) : patchL a b (l.take (i + 1)) = patchL a b (l.take i) ++ takeC a b c := by
 obtain ⟨hlt, rfl⟩ := List.getElem?_eq_some_iff.1 h
 rw [List.take_succ_eq_append_getElem hlt]
 simp only [patchL, List.flatMap_append, List.flatMap_cons, List.flatMap_nil, List.append_nil]
theorem takeC_len (a b : List Bs) (c : Chg) : (takeC a b c).length ≤ 1 := by
 unfold takeC
 split
 ·
  split
  ·
   cases a[c.src.toNat]? <;> simp
  ·
   simp
 ·
  split
  ·
   split
   ·
    cases b[c.dst.toNat]? <;> simp
   ·
    simp
  ·
   simp
theorem patchL_len (a b : List Bs) (l : List Chg) : (patchL a b l).length ≤ l.length := by
 induction l with
 | nil => simp [patchL]
 | cons c l ih =>
  have := takeC_len a b c
  simp only [patchL, List.flatMap_cons, List.length_append, List.length_cons] at ih ⊢
  omega
set_option maxHeartbeats 2000000 in
theorem length_fn (l : List Chg) (hl : l.length ≤ 100000) (v : Value) (u : View) (ha : ChS u v l) :
  FnP Tryd.prog 20 [v] u fun r _ => r = .int .i64 ((lenL l : Nat) : Int) := by
 obtain ⟨ad, cap, rfl, h1⟩ := ha
 refine FnP.intro [.tmp 2] Tryd.func20 rfl rfl rfl ?_
 intro w0 D hw0
 refine Ze (Zb (ya rfl rfl (Zf (ρ' := [(0, _)]) ⟨rfl, trivial⟩ ?_)))
 refine Zd (Ze (Zb (ya rfl rfl (Zf (ρ' := [(0, _), (3, _)]) ⟨rfl, rfl, trivial⟩ ?_))))
 refine Zd (Ze (Ze (Zb (ym rfl rfl (Zg (Zx rfl rfl Tryd.s26 rfl) rfl (ym rfl rfl (Zf (ρ' := [(3, _), (6, _), (7, _), (8, _)]) ⟨rfl, rfl, rfl, rfl, trivial⟩ ?_)))))))
 refine Zd (Zq ?_)
 refine Zaq (fun m_0 ρ σ u' => ∃ i : Nat, i + m_0 = l.length ∧ VLe u u' ∧ σ = [] ∧ ρ = [(3, .v (.int .i64 ((lenL (l.take i) : Nat) : Int))), (6, .v (.slice ad l.length cap)), (7, .v (.int .i64 l.length)), (8, .v (.int .i64 i))] ∧ (True)) (l.length) ?_ ?_
 ·
  refine ⟨[(3, _), (6, _), (7, _), (8, _)], [], ⟨rfl, rfl, rfl, rfl, trivial⟩, trivial, 0, by omega, VLe.refl _, (by first | rfl | simp), (by first | rfl | (simp only [List.cons.injEq, Prod.mk.injEq, SV.v.injEq, Value.int.injEq, true_and, and_true]; omega) | simp), ?_⟩
  trivial
 ·
  rintro m ρ σ u' ⟨i, hi3, hle3, rfl, rfl, hinv3⟩
  refine Ze (Zb (Zg (Zav rfl rfl rfl) rfl (Zf (ρ' := [(3, _), (6, _), (7, _), (8, _), (9, _)]) ⟨rfl, rfl, rfl, rfl, rfl, trivial⟩ ?_)))
  refine Zd (Ze ?_)
  refine Zw rfl (fun hb3 => ?_) (fun hb3 => ?_)
  ·
   have h3 := of_decide_eq_true hb3
   obtain ⟨⟨kd, sr, ds⟩, hc⟩ : ∃ c, l[i]? = some c := ⟨_, List.getElem?_eq_getElem (by omega)⟩
   have hcut := chgsC_cut hc
   have hT := lenL_take hc
   have hlb := lenL_le (l.take i)
   rw [List.length_take, Nat.min_eq_left (by omega)] at hlb
   have h1u := h1.mono hle3
   refine Zv (Zd (Ze (Zq (Ze (Zb (Zg (Zs rfl Tryd.s26 rfl rfl h1u rfl (by omega)) rfl (Zg (Zr rfl Tryd.k51 rfl h1u (by omega) hcut (vs := [_, _, _]) rfl rfl rfl rfl) rfl (Zt rfl rfl ?_))))))))
   refine Zau trivial Tryd.z51 rfl rfl rfl ?_
   refine Zt rfl rfl ?_
   refine Zao trivial rfl Tryd.k51 rfl rfl rfl (vs := [_, _, _]) rfl rfl (by first | rfl | assumption | simp [Value.oneCell', str]) (Nat.le_of_ble_eq_true rfl) rfl ?_
   refine Zf (ρ' := [(3, _), (5, _), (6, _), (7, _), (8, _)]) ⟨rfl, rfl, rfl, rfl, rfl, trivial⟩ ?_
   refine Zd (Ze (Zb (Zg (Zi rfl Tryd.f51' rfl (by decide) rfl) rfl (Zg (Zl rfl Tryd.k3 rfl rfl rfl (vs := [_]) rfl rfl rfl) rfl (Zf (ρ' := [(3, _), (6, _), (7, _), (8, _), (13, _)]) ⟨rfl, rfl, rfl, rfl, rfl, trivial⟩ ?_)))))
   refine Zd (Zq ?_)
   refine wc_cut (fun ρ σ uci8 => VLe u' uci8 ∧ σ = [] ∧ ρ = [(3, .v (.int .i64 ((lenL (l.take i) : Nat) : Int))), (6, .v (.slice ad l.length cap)), (7, .v (.int .i64 l.length)), (8, .v (.int .i64 i)), (13, .v (.int .i64 kd)), (14, .v (.bool (decide (kd = 2 ∨ kd = 3))))] ∧ (True)) ?_ ?_
   ·
    refine Ze (Zb (Zg (Zbl rfl rfl rfl) rfl (ya rfl rfl (Zf (ρ' := [(3, _), (6, _), (7, _), (8, _), (13, _), (14, _)]) ⟨rfl, rfl, rfl, rfl, rfl, rfl, trivial⟩ ?_))))
    refine Zd ?_
    refine Zw rfl (fun hb6 => ?_) (fun hb6 => ?_)
    ·
     refine Zv (Zab ?_)
     refine ⟨[(3, _), (6, _), (7, _), (8, _), (13, _), (14, _)], [], ⟨rfl, rfl, rfl, rfl, rfl, rfl, trivial⟩, trivial, (VLe.refl _), rfl, (by first | rfl | (simp only [List.cons.injEq, Prod.mk.injEq, SV.v.injEq, Value.bool.injEq, eq_self, true_and, and_true]; exact decide_eq_decide.2 (by simp only [decide_eq_true_eq, decide_eq_false_iff_not] at *; omega))), ?_⟩
     trivial
    ·
     refine Zb (Zg (Zbl rfl rfl rfl) rfl (ya rfl rfl (Zf (ρ' := [(3, _), (6, _), (7, _), (8, _), (13, _), (14, _)]) ⟨rfl, rfl, rfl, rfl, rfl, rfl, trivial⟩ ?_)))
     refine Zab ?_
     refine ⟨[(3, _), (6, _), (7, _), (8, _), (13, _), (14, _)], [], ⟨rfl, rfl, rfl, rfl, rfl, rfl, trivial⟩, trivial, (VLe.refl _), rfl, (by first | rfl | (simp only [List.cons.injEq, Prod.mk.injEq, SV.v.injEq, Value.bool.injEq, eq_self, true_and, and_true]; exact decide_eq_decide.2 (by simp only [decide_eq_true_eq, decide_eq_false_iff_not] at *; omega))), ?_⟩
     trivial
   ·
    rintro ρ σ uci8 ⟨hlci8, rfl, rfl, hci8⟩
    refine Zw rfl (fun hb7 => ?_) (fun hb7 => ?_)
    ·
     have hC : lenC ⟨kd, sr, ds⟩ = 1 := if_pos (of_decide_eq_true hb7)
     refine Zb (ym rfl rfl (Zg (Zap rfl rfl rfl (Zk (by omega))) rfl ?_))
     refine ya rfl rfl (Zf (ρ' := [(3, _), (6, _), (7, _), (8, _)]) ⟨rfl, rfl, rfl, rfl, trivial⟩ ?_)
     refine Zah (Zah (Zd (Zb (Zg (Zap rfl rfl rfl (Zk (by omega))) rfl ?_))))
     refine ym rfl rfl (Zf (ρ' := [(3, _), (6, _), (7, _), (8, _)]) ⟨rfl, rfl, rfl, rfl, trivial⟩ ?_)
     refine Zab ?_
     refine ⟨m - 1, [(3, _), (6, _), (7, _), (8, _)], [], by omega, ⟨rfl, rfl, rfl, rfl, trivial⟩, trivial, i + 1, by omega, (hle3.trans hlci8), (by first | rfl | simp), (by first | rfl | (simp only [List.cons.injEq, Prod.mk.injEq, SV.v.injEq, Value.int.injEq, true_and, and_true]; omega) | simp), ?_⟩
     trivial
    ·
     have hn23 := of_decide_eq_false hb7
     refine Ze (Zb (Zg (Zbl rfl rfl rfl) rfl (ya rfl rfl (Zf (ρ' := [(3, _), (6, _), (7, _), (8, _), (19, _)]) ⟨rfl, rfl, rfl, rfl, rfl, trivial⟩ ?_))))
     refine Zd ?_
     refine Zw rfl (fun hb9 => ?_) (fun hb9 => ?_)
     ·
      have hC : lenC ⟨kd, sr, ds⟩ = 2 := (if_neg hn23).trans (if_pos (of_decide_eq_true hb9))
      refine Zb (ym rfl rfl (Zg (Zap rfl rfl rfl (Zk (by omega))) rfl ?_))
      refine ya rfl rfl (Zf (ρ' := [(3, _), (6, _), (7, _), (8, _)]) ⟨rfl, rfl, rfl, rfl, trivial⟩ ?_)
      refine Zah (Zah (Zd (Zb (Zg (Zap rfl rfl rfl (Zk (by omega))) rfl ?_))))
      refine ym rfl rfl (Zf (ρ' := [(3, _), (6, _), (7, _), (8, _)]) ⟨rfl, rfl, rfl, rfl, trivial⟩ ?_)
      refine Zab ?_
      refine ⟨m - 1, [(3, _), (6, _), (7, _), (8, _)], [], by omega, ⟨rfl, rfl, rfl, rfl, trivial⟩, trivial, i + 1, by omega, (hle3.trans hlci8), (by first | rfl | simp), (by first | rfl | (simp only [List.cons.injEq, Prod.mk.injEq, SV.v.injEq, Value.int.injEq, true_and, and_true]; omega) | simp), ?_⟩
      trivial
     ·
      have hC : lenC ⟨kd, sr, ds⟩ = 0 := (if_neg hn23).trans (if_neg (of_decide_eq_false hb9))
      refine Zv (Zah (Zah (Zd (Zb (Zg (Zap rfl rfl rfl (Zk (by omega))) rfl ?_)))))
      refine ym rfl rfl (Zf (ρ' := [(3, _), (6, _), (7, _), (8, _)]) ⟨rfl, rfl, rfl, rfl, trivial⟩ ?_)
      refine Zab ?_
      refine ⟨m - 1, [(3, _), (6, _), (7, _), (8, _)], [], by omega, ⟨rfl, rfl, rfl, rfl, trivial⟩, trivial, i + 1, by omega, (hle3.trans hlci8), (by first | rfl | simp), (by first | rfl | (simp only [List.cons.injEq, Prod.mk.injEq, SV.v.injEq, Value.int.injEq, true_and, and_true]; omega) | simp), ?_⟩
      trivial
  ·
   have h3 := of_decide_eq_false hb3
   refine Zan ?_
   refine Zh (Zh ?_)
   refine Zu ?_
   refine Zd (Ze (Zb (ym rfl rfl (ya rfl rfl (Zf (ρ' := [(2, _)]) ⟨rfl, trivial⟩ ?_)))))
   refine Zd (Zaj (Zbf (.tmp rfl) ?_))
   rw [List.take_of_length_le (by omega)]
theorem strsC_snoc (L : List Bs) (s : Bs) : strsC (L ++ [s]) = strsC L ++ [str s] := by simp [strsC]
def tkL (a : List Bs) (j : Int) : List Bs := if 0 ≤ j then (a[j.toNat]?).toList else []
set_option maxHeartbeats 2000000 in
theorem take_fn (bl : Nat) (a : List Bs) (j : Int) (L : List Bs) (ao : Option Addr) (co : Nat) (hL : L.length ≤ 100000) (v : Value) (u : View) (ha : StrS u v a) :
  FnO Tryd.prog 38 [v, .int .i64 j, .pointer (some ⟨bl, 0, none⟩)] u [(some bl, .box [.slice ao L.length co]), (none, .rwv (.slice ao L.length co) 9 1 L.length (strsC L))]
   fun r u' l' => ∃ ac cc, l' = [(some bl, .box [.slice ac (L ++ tkL a j).length cc]), (none, .rwv (.slice ac (L ++ tkL a j).length cc) 9 1 (L ++ tkL a j).length (strsC (L ++ tkL a j)))] := by
 obtain ⟨ad, cap, rfl, h1⟩ := ha
 refine FnO.intro [] Tryd.func38 rfl rfl rfl ?_
 intro w0 D hw0
 refine wc_pin 2 1000 _ 0 rfl rfl ?_
 refine Ze ?_
 refine Zbd 12 (decide (0 ≤ j ∧ j < (a.length : Int))) (ρk := [(0, _), (1, _), (2, _)]) ⟨rfl, rfl, rfl, trivial⟩ ?_ ?_
 ·
  refine Zb (ym rfl rfl (Zg (y_geq rfl rfl rfl) rfl (ym rfl rfl ?_)))
  refine Zar 7 rfl (fun hg0_2 => ?_) (fun hg0_2 => ?_)
  ·
   refine Zp rfl rfl (ym rfl rfl (Zp rfl rfl (ym rfl rfl (Zp rfl rfl (Zg (Zx rfl rfl Tryd.s22 rfl) rfl (Zp rfl rfl (Zg (Zav rfl rfl rfl) rfl ?_)))))))
   refine Zg (Zo rfl rfl rfl) rfl ?_
   exact Zam rfl ⟨rfl, rfl, rfl, trivial⟩ (by
   first
   | (refine (decide_eq_false fun h => ?_).symm; have := of_decide_eq_false hg0_2; omega)
   | (refine decide_eq_decide.2 ?_; have := of_decide_eq_true hg0_2; omega))
  ·
   iterate 4 refine Zaf rfl rfl rfl rfl ?_
   refine Zg (Zad rfl rfl rfl) rfl ?_
   exact Zam rfl ⟨rfl, rfl, rfl, trivial⟩ (by
   first
   | (refine (decide_eq_false fun h => ?_).symm; have := of_decide_eq_false hg0_2; omega)
   | (refine decide_eq_decide.2 ?_; have := of_decide_eq_true hg0_2; omega))
 refine Zd ?_
 refine Zw rfl (fun hb0 => ?_) (fun hb0 => ?_)
 ·
  have h0 := of_decide_eq_true hb0
  obtain ⟨jn, rfl⟩ : ∃ jn : Nat, j = jn := ⟨j.toNat, by omega⟩
  obtain ⟨s, hs⟩ : ∃ s, a[jn]? = some s := ⟨_, List.getElem?_eq_getElem (by omega)⟩
  have hcut := strsC_cut hs
  have hT : tkL a jn = [s] := by simp [tkL, hs]
  rw [hT]
  refine Zbb Tryd.mixed rfl [] trivial ?_
  refine Zak 1 rfl (by kernel_rfl) (Zbm) (Zae rfl rfl) rfl (Zak 2 rfl (by kernel_rfl) (Zbm) (Zae rfl rfl) rfl ?_)
  refine Zak 3 rfl (by kernel_rfl) (Zbm) (Zs rfl Tryd.s22 rfl rfl h1 rfl (by omega)) rfl ?_
  refine Zak 4 rfl (by kernel_rfl) (Zbm) (Zr rfl Tryd.k9 rfl h1 (by omega) hcut (vs := [_]) rfl rfl rfl rfl) rfl ?_
  refine ra_all (is := [0, 5]) (by kernel_rfl) rfl ?_
  refine raall_cons rfl rfl ?_ ?_
  ·
   refine do_y (Zl rfl Tryd.k22 rfl rfl rfl (vs := [_]) rfl rfl rfl) rfl ?_
   refine Zbi (i := 5) rfl rfl (by kernel_rfl) ?_
   refine Zai trivial Tryd.s22 Tryd.z9 (ps := [(_, _)]) rfl (xs := [_]) rfl rfl rfl rfl rfl rfl rfl ?_
   refine Zbi (i := 6) rfl rfl (by kernel_rfl) ?_
   refine Zbs 1001 trivial rfl rfl Tryd.s22 Tryd.z9 rfl rfl rfl rfl rfl rfl (by first | rfl | assumption | simp [Value.oneCell', str]) (by omega) (by omega) rfl rfl ?_
   intro ad19 cap19
   refine Zbi (i := 7) rfl rfl (by kernel_rfl) ?_
   refine Zao trivial rfl Tryd.k22 rfl rfl rfl (vs := [_]) rfl rfl (by first | rfl | assumption | simp [Value.oneCell', str]) (Nat.le_of_ble_eq_true rfl) rfl ?_
   refine Zbn (by kernel_rfl) (ρ' := []) trivial ?_
   refine finO0n [1000, 1001]  rfl rfl ?_
   first
   | exact ⟨_, _, rfl⟩
   | exact ⟨ad19, cap19, by rw [strsC_snoc, List.length_append]; rfl⟩
  refine raall_cons rfl rfl ?_ ?_
  ·
   refine Zai trivial Tryd.s22 Tryd.z9 (ps := [(_, _)]) rfl (xs := [_]) rfl rfl rfl rfl rfl rfl rfl ?_
   refine Zbi (i := 0) rfl rfl (by kernel_rfl) ?_
   refine do_y (Zl rfl Tryd.k22 rfl rfl rfl (vs := [_]) rfl rfl rfl) rfl ?_
   refine Zbi (i := 6) rfl rfl (by kernel_rfl) ?_
   refine Zbs 1001 trivial rfl rfl Tryd.s22 Tryd.z9 rfl rfl rfl rfl rfl rfl (by first | rfl | assumption | simp [Value.oneCell', str]) (by omega) (by omega) rfl rfl ?_
   intro ad19 cap19
   refine Zbi (i := 7) rfl rfl (by kernel_rfl) ?_
   refine Zao trivial rfl Tryd.k22 rfl rfl rfl (vs := [_]) rfl rfl (by first | rfl | assumption | simp [Value.oneCell', str]) (Nat.le_of_ble_eq_true rfl) rfl ?_
   refine Zbn (by kernel_rfl) (ρ' := []) trivial ?_
   refine finO0n [1000, 1001]  rfl rfl ?_
   first
   | exact ⟨_, _, rfl⟩
   | exact ⟨ad19, cap19, by rw [strsC_snoc, List.length_append]; rfl⟩
  exact raall_nil
 ·
  have h0 := of_decide_eq_false hb0
  have hT : tkL a j = [] := by
   unfold tkL
   split
   ·
    rw [List.getElem?_eq_none (by omega)]; rfl
   ·
    rfl
  rw [hT, List.append_nil]
  refine Zv ?_
  refine finO0n [1000, 1001]  rfl rfl ?_
  first
  | exact ⟨_, _, rfl⟩
  | exact ⟨ad19, cap19, by rw [strsC_snoc, List.length_append]; rfl⟩
theorem takeC_1 (a b : List Bs) (kd s d : Int) (h : kd = 1) : takeC a b ⟨kd, s, d⟩ = tkL a s := by
 subst h
 simp [takeC, tkL]
theorem takeC_34 (a b : List Bs) (kd s d : Int) (h1 : ¬ kd = 1) (h : kd = 3 ∨ kd = 4) : takeC a b ⟨kd, s, d⟩ = tkL b d := by
 unfold takeC tkL
 rw [if_neg h1, if_pos h]
theorem takeC_0 (a b : List Bs) (kd s d : Int) (h1 : ¬ kd = 1) (h : ¬ (kd = 3 ∨ kd = 4)) : takeC a b ⟨kd, s, d⟩ = [] := by
 unfold takeC
 rw [if_neg h1, if_neg h]
set_option maxHeartbeats 4000000 in
theorem patch_fn (a b : List Bs) (l : List Chg) (hl : l.length ≤ 10000) (va vb v : Value) (u : View) (ha : StrS u va a) (hb : StrS u vb b) (hv : ChS u v l) :
  FnP Tryd.prog 23 [va, vb, v] u fun r u' => StrS u' r (patchL a b l) := by
 have ha2 := ha
 have hb2 := hb
 obtain ⟨aA, cA, rfl, hA⟩ := ha2
 obtain ⟨aB, cB, rfl, hB⟩ := hb2
 obtain ⟨ad, cap, rfl, h1⟩ := hv
 refine FnP.intro [.tmp 6] Tryd.func23 rfl rfl rfl ?_
 intro w0 D hw0
 refine Ze (Zb (ya rfl rfl (Zf (ρ' := [(0, _), (1, _), (2, _)]) ⟨rfl, rfl, rfl, trivial⟩ ?_)))
 refine Zd (Ze (Zb ?_))
 refine rl_nilW 601 9 1 rfl rfl ?_
 refine Zt rfl rfl ?_
 refine Zau trivial Tryd.z22 rfl rfl rfl ?_
 refine Zf (ρ' := [(0, _), (1, _), (2, _), (7, _)]) ⟨rfl, rfl, rfl, rfl, trivial⟩ ?_
 refine Zd (Ze (Zb ?_))
 refine rl_name 7 rfl ⟨7, _, .inl rfl⟩ ?_
 intro b7
 refine Zg (y_makeFunc rfl rfl rfl) rfl (ya rfl rfl (Zf (ρ' := [(0, _), (1, _), (2, _), (7, _), (8, _)]) ⟨rfl, rfl, rfl, rfl, rfl, trivial⟩ ?_))
 refine Zd (Ze (Ze (Zb (ym rfl rfl (Zg (Zx rfl rfl Tryd.s26 rfl) rfl (ym rfl rfl (Zf (ρ' := [(0, _), (1, _), (7, _), (8, _), (12, _), (13, _), (14, _)]) ⟨rfl, rfl, rfl, rfl, rfl, rfl, rfl, trivial⟩ ?_)))))))
 refine Zd (Zq ?_)
 refine Zaq (fun m_0 ρ σ u' => ∃ i : Nat, i + m_0 = l.length ∧ VLe u u' ∧ ∃ (ac : Option Addr) (cc : Nat), σ = [(7, (some b7, .box [.slice ac (patchL a b (l.take i)).length cc])), (601, (none, .rwv (.slice ac (patchL a b (l.take i)).length cc) 9 1 (patchL a b (l.take i)).length (strsC (patchL a b (l.take i)))))] ∧ ρ = [(0, .v (.slice aA a.length cA)), (1, .v (.slice aB b.length cB)), (7, .p 7 0), (8, .v (.func (.func 38) #[] #[.pointer (some ⟨b7, 0, none⟩)])), (12, .v (.slice ad l.length cap)), (13, .v (.int .i64 l.length)), (14, .v (.int .i64 i))] ∧ (True)) (l.length) ?_ ?_
 ·
  refine ⟨[(0, _), (1, _), (7, _), (8, _), (12, _), (13, _), (14, _)], [(7, _), (601, _)], ⟨rfl, rfl, rfl, rfl, rfl, rfl, rfl, trivial⟩, ⟨rfl, rfl, trivial⟩, 0, by omega, VLe.refl _, _, _, (by first | rfl | simp), (by first | rfl | (simp only [List.cons.injEq, Prod.mk.injEq, SV.v.injEq, Value.int.injEq, true_and, and_true]; omega) | simp), ?_⟩
  trivial
 ·
  rintro m ρ σ u' ⟨i, hi4, hle4, ac, cc, rfl, rfl, hinv4⟩
  refine Ze (Zb (Zg (Zav rfl rfl rfl) rfl (Zf (ρ' := [(0, _), (1, _), (7, _), (8, _), (12, _), (13, _), (14, _), (15, _)]) ⟨rfl, rfl, rfl, rfl, rfl, rfl, rfl, rfl, trivial⟩ ?_)))
  refine Zd (Ze ?_)
  refine Zw rfl (fun hb4 => ?_) (fun hb4 => ?_)
  ·
   have h4 := of_decide_eq_true hb4
   obtain ⟨⟨kd, sr, ds⟩, hc⟩ : ∃ c, l[i]? = some c := ⟨_, List.getElem?_eq_getElem (by omega)⟩
   have hcut := chgsC_cut hc
   have hT := patchL_take (a := a) (b := b) hc
   have hlb := patchL_len a b (l.take i)
   rw [List.length_take, Nat.min_eq_left (by omega)] at hlb
   have h1u := h1.mono hle4
   have ha3 := ha.mono hle4
   have hb3 := hb.mono hle4
   obtain ⟨L, hL⟩ : ∃ L, L = patchL a b (l.take i) := ⟨_, rfl⟩
   rw [← hL] at hlb hT ⊢
   refine Zv (Zd ?_)
   refine wc_cut (fun ρ σ uc12 => ∃ (ac2 : Option Addr) (cc2 : Nat), VLe u' uc12 ∧ σ = [(7, (some b7, .box [.slice ac2 (patchL a b (l.take (i + 1))).length cc2])), (601, (none, .rwv (.slice ac2 (patchL a b (l.take (i + 1))).length cc2) 9 1 (patchL a b (l.take (i + 1))).length (strsC (patchL a b (l.take (i + 1))))))] ∧ ρ = [(0, .v (.slice aA a.length cA)), (1, .v (.slice aB b.length cB)), (7, .p 7 0), (8, .v (.func (.func 38) #[] #[.pointer (some ⟨b7, 0, none⟩)])), (12, .v (.slice ad l.length cap)), (13, .v (.int .i64 l.length)), (14, .v (.int .i64 i))] ∧ (True)) ?_ ?_
   ·
    refine Zq (Ze (Zb (Zg (Zs rfl Tryd.s26 rfl rfl h1u rfl (by omega)) rfl (Zg (Zr rfl Tryd.k51 rfl h1u (by omega) hcut (vs := [_, _, _]) rfl rfl rfl rfl) rfl (Zt rfl rfl ?_)))))
    refine Zau trivial Tryd.z51 rfl rfl rfl ?_
    refine Zt rfl rfl ?_
    refine Zao trivial rfl Tryd.k51 rfl rfl rfl (vs := [_, _, _]) rfl rfl (by first | rfl | assumption | simp [Value.oneCell', str]) (Nat.le_of_ble_eq_true rfl) rfl ?_
    refine Zf (ρ' := [(0, _), (1, _), (7, _), (8, _), (10, _), (12, _), (13, _), (14, _)]) ⟨rfl, rfl, rfl, rfl, rfl, rfl, rfl, rfl, trivial⟩ ?_
    refine Zd (Ze (Zb (Zg (Zi rfl Tryd.f51' rfl (by decide) rfl) rfl (Zg (Zl rfl Tryd.k3 rfl rfl rfl (vs := [_]) rfl rfl rfl) rfl (Zf (ρ' := [(0, _), (1, _), (7, _), (8, _), (10, _), (12, _), (13, _), (14, _), (19, _)]) ⟨rfl, rfl, rfl, rfl, rfl, rfl, rfl, rfl, rfl, trivial⟩ ?_)))))
    refine Zd (Zq (Ze (Zb (Zg (Zbl rfl rfl rfl) rfl (ya rfl rfl (Zf (ρ' := [(0, _), (1, _), (7, _), (8, _), (10, _), (12, _), (13, _), (14, _), (19, _), (20, _)]) ⟨rfl, rfl, rfl, rfl, rfl, rfl, rfl, rfl, rfl, rfl, trivial⟩ ?_))))))
    refine Zd ?_
    refine Zw rfl (fun hb7 => ?_) (fun hb7 => ?_)
    ·
     have hC := takeC_1 a b kd sr ds (of_decide_eq_true hb7)
     rw [hC] at hT
     refine Zb (ym rfl rfl (ym rfl rfl (Zg (Zi rfl Tryd.f51' rfl (by decide) rfl) rfl (Zg (Zl rfl Tryd.k3 rfl rfl rfl (vs := [_]) rfl rfl rfl) rfl (Zt rfl rfl ?_)))))
     refine Zal (caps := [.pointer (some ⟨b7, 0, none⟩)]) (ρ' := [(0, _), (1, _), (7, _), (8, _), (12, _), (13, _), (14, _)]) [7, 601] [] trivial rfl rfl rfl Tryd.c38 rfl rfl ⟨rfl, rfl, rfl, rfl, rfl, rfl, rfl, trivial⟩ rfl rfl rfl (FnO.mono (take_fn b7 a sr L ac cc (by omega) _ u' ha3) ?_)
     rintro v uT l1 hleT ⟨a8, c8, rfl⟩ -
     refine ⟨⟨fun _ h => h, fun _ h => h, trivial⟩, ?_⟩
     refine Zf (ρ' := [(0, _), (1, _), (7, _), (8, _), (12, _), (13, _), (14, _)]) ⟨rfl, rfl, rfl, rfl, rfl, rfl, rfl, trivial⟩ ?_
     refine Zah (Zah (Zab ?_))
     refine ⟨[(0, _), (1, _), (7, _), (8, _), (12, _), (13, _), (14, _)], [(7, _), (601, _)], ⟨rfl, rfl, rfl, rfl, rfl, rfl, rfl, trivial⟩, ⟨rfl, rfl, trivial⟩, _, _, (by first | exact hleT | exact hlci11.trans hleS | exact hlci11), (by rw [hT]), (by first | rfl | simp), ?_⟩
     trivial
    ·
     have hn1 := of_decide_eq_false hb7
     refine wc_cut (fun ρ σ uci11 => VLe u' uci11 ∧ σ = [(7, (some b7, .box [.slice ac L.length cc])), (10, (none, .box [.int .i64 kd, .int .i64 sr, .int .i64 ds])), (601, (none, .rwv (.slice ac L.length cc) 9 1 L.length (strsC L)))] ∧ ρ = [(0, .v (.slice aA a.length cA)), (1, .v (.slice aB b.length cB)), (7, .p 7 0), (8, .v (.func (.func 38) #[] #[.pointer (some ⟨b7, 0, none⟩)])), (10, .p 10 0), (12, .v (.slice ad l.length cap)), (13, .v (.int .i64 l.length)), (14, .v (.int .i64 i)), (27, .v (.bool (decide (kd = 3 ∨ kd = 4))))] ∧ (True)) ?_ ?_
     ·
      refine Ze (Zb (Zg (Zbl rfl rfl rfl) rfl (ya rfl rfl (Zf (ρ' := [(0, _), (1, _), (7, _), (8, _), (10, _), (12, _), (13, _), (14, _), (19, _), (27, _)]) ⟨rfl, rfl, rfl, rfl, rfl, rfl, rfl, rfl, rfl, rfl, trivial⟩ ?_))))
      refine Zd ?_
      refine Zw rfl (fun hb9 => ?_) (fun hb9 => ?_)
      ·
       refine Zv (Zab ?_)
       refine ⟨[(0, _), (1, _), (7, _), (8, _), (10, _), (12, _), (13, _), (14, _), (27, _)], [(7, _), (10, _), (601, _)], ⟨rfl, rfl, rfl, rfl, rfl, rfl, rfl, rfl, rfl, trivial⟩, ⟨rfl, rfl, rfl, trivial⟩, (VLe.refl _), rfl, (by first | rfl | (simp only [List.cons.injEq, Prod.mk.injEq, SV.v.injEq, Value.bool.injEq, eq_self, true_and, and_true]; exact decide_eq_decide.2 (by simp only [decide_eq_true_eq, decide_eq_false_iff_not] at *; omega))), ?_⟩
       trivial
      ·
       refine Zb (Zg (Zbl rfl rfl rfl) rfl (ya rfl rfl (Zf (ρ' := [(0, _), (1, _), (7, _), (8, _), (10, _), (12, _), (13, _), (14, _), (27, _)]) ⟨rfl, rfl, rfl, rfl, rfl, rfl, rfl, rfl, rfl, trivial⟩ ?_)))
       refine Zab ?_
       refine ⟨[(0, _), (1, _), (7, _), (8, _), (10, _), (12, _), (13, _), (14, _), (27, _)], [(7, _), (10, _), (601, _)], ⟨rfl, rfl, rfl, rfl, rfl, rfl, rfl, rfl, rfl, trivial⟩, ⟨rfl, rfl, rfl, trivial⟩, (VLe.refl _), rfl, (by first | rfl | (simp only [List.cons.injEq, Prod.mk.injEq, SV.v.injEq, Value.bool.injEq, eq_self, true_and, and_true]; exact decide_eq_decide.2 (by simp only [decide_eq_true_eq, decide_eq_false_iff_not] at *; omega))), ?_⟩
       trivial
     ·
      rintro ρ σ uci11 ⟨hlci11, rfl, rfl, hci11⟩
      refine Zw rfl (fun hb10 => ?_) (fun hb10 => ?_)
      ·
       rw [takeC_34 a b kd sr ds hn1 (of_decide_eq_true hb10)] at hT
       refine Zb (ym rfl rfl (ym rfl rfl (Zg (Zi rfl Tryd.f51' rfl (by decide) rfl) rfl (Zg (Zl rfl Tryd.k3 rfl rfl rfl (vs := [_]) rfl rfl rfl) rfl (Zt rfl rfl ?_)))))
       refine Zal (caps := [.pointer (some ⟨b7, 0, none⟩)]) (ρ' := [(0, _), (1, _), (7, _), (8, _), (12, _), (13, _), (14, _)]) [7, 601] [] trivial rfl rfl rfl Tryd.c38 rfl rfl ⟨rfl, rfl, rfl, rfl, rfl, rfl, rfl, trivial⟩ rfl rfl rfl (FnO.mono (take_fn b7 b ds L ac cc (by omega) _ uci11 (hb3.mono hlci11)) ?_)
       rintro v uS l1 hleS ⟨a9, c9, rfl⟩ -
       refine ⟨⟨fun _ h => h, fun _ h => h, trivial⟩, ?_⟩
       refine Zf (ρ' := [(0, _), (1, _), (7, _), (8, _), (12, _), (13, _), (14, _)]) ⟨rfl, rfl, rfl, rfl, rfl, rfl, rfl, trivial⟩ ?_
       refine Zah (Zah (Zab ?_))
       refine ⟨[(0, _), (1, _), (7, _), (8, _), (12, _), (13, _), (14, _)], [(7, _), (601, _)], ⟨rfl, rfl, rfl, rfl, rfl, rfl, rfl, trivial⟩, ⟨rfl, rfl, trivial⟩, _, _, (by first | exact hleT | exact hlci11.trans hleS | exact hlci11), (by rw [hT]), (by first | rfl | simp), ?_⟩
       trivial
      ·
       rw [takeC_0 a b kd sr ds hn1 (of_decide_eq_false hb10), List.append_nil] at hT
       refine Zv (Zah (Zah (Zab ?_)))
       refine ⟨[(0, _), (1, _), (7, _), (8, _), (12, _), (13, _), (14, _)], [(7, _), (601, _)], ⟨rfl, rfl, rfl, rfl, rfl, rfl, rfl, trivial⟩, ⟨rfl, rfl, trivial⟩, _, _, (by first | exact hleT | exact hlci11.trans hleS | exact hlci11), (by rw [hT]), (by first | rfl | simp), ?_⟩
       trivial
   ·
    rintro ρ σ uc12 ⟨ac2, cc2, hlc12, rfl, rfl, hc12⟩
    refine Zb (Zg (Zap rfl rfl rfl (Zk (by omega))) rfl ?_)
    refine ym rfl rfl (Zf (ρ' := [(0, _), (1, _), (7, _), (8, _), (12, _), (13, _), (14, _)]) ⟨rfl, rfl, rfl, rfl, rfl, rfl, rfl, trivial⟩ ?_)
    refine Zab ?_
    refine ⟨m - 1, [(0, _), (1, _), (7, _), (8, _), (12, _), (13, _), (14, _)], [(7, _), (601, _)], by omega, ⟨rfl, rfl, rfl, rfl, rfl, rfl, rfl, trivial⟩, ⟨rfl, rfl, trivial⟩, i + 1, by omega, (hle4.trans hlc12), _, _, (by first | rfl | simp), (by first | rfl | (simp only [List.cons.injEq, Prod.mk.injEq, SV.v.injEq, Value.int.injEq, true_and, and_true]; omega) | simp), ?_⟩
    trivial
  ·
   have h4 := of_decide_eq_false hb4
   rw [List.take_of_length_le (by omega)]
   refine Zan ?_
   refine Zh (Zh ?_)
   refine Zu ?_
   refine Zd (Ze (Zb (Zg (Zl rfl Tryd.k22 rfl rfl rfl (vs := [_]) rfl rfl rfl) rfl ?_)))
   refine Zbj 601 rfl ?_
   intro uF hleF hF
   refine ya rfl rfl (Zf (ρ' := [(6, _)]) ⟨rfl, trivial⟩ ?_)
   refine Zd (Zaj (Zbf (.tmp rfl) ?_))
   exact hF
set_option maxHeartbeats 2000000 in
theorem refLength_fn (l : List Chg) (hl : l.length ≤ 100000) (v : Value) (u : View) (ha : ChS u v l) :
  FnP Tryd.prog 21 [v] u fun r _ => r = .int .i64 ((lenL l : Nat) : Int) := by
 obtain ⟨ad, cap, rfl, h1⟩ := ha
 refine FnP.intro [.tmp 2] Tryd.func21 rfl rfl rfl ?_
 intro w0 D hw0
 refine Ze (Zb (ya rfl rfl (Zf (ρ' := [(0, _)]) ⟨rfl, trivial⟩ ?_)))
 refine Zd (Ze (Zb (ya rfl rfl (Zf (ρ' := [(0, _), (3, _)]) ⟨rfl, rfl, trivial⟩ ?_))))
 refine Zd (Ze (Ze (Zb (ya rfl rfl (Zf (ρ' := [(0, _), (3, _), (4, _)]) ⟨rfl, rfl, rfl, trivial⟩ ?_)))))
 refine Zd (Zq ?_)
 refine Zaq (fun m_0 ρ σ u' => ∃ i : Nat, i + m_0 = l.length ∧ VLe u u' ∧ σ = [] ∧ ρ = [(0, .v (.slice ad l.length cap)), (3, .v (.int .i64 ((lenL (l.take i) : Nat) : Int))), (4, .v (.int .i64 i))] ∧ (True)) (l.length) ?_ ?_
 ·
  refine ⟨[(0, _), (3, _), (4, _)], [], ⟨rfl, rfl, rfl, trivial⟩, trivial, 0, by omega, VLe.refl _, (by first | rfl | simp), (by first | rfl | (simp only [List.cons.injEq, Prod.mk.injEq, SV.v.injEq, Value.int.injEq, true_and, and_true]; omega) | simp), ?_⟩
  trivial
 ·
  rintro m ρ σ u' ⟨i, hi3, hle3, rfl, rfl, hinv3⟩
  refine Ze (Ze (Zb (ym rfl rfl (ym rfl rfl (Zg (Zx rfl rfl Tryd.s26 rfl) rfl (Zg (Zav rfl rfl rfl) rfl (Zf (ρ' := [(0, _), (3, _), (4, _), (8, _)]) ⟨rfl, rfl, rfl, rfl, trivial⟩ ?_)))))))
  refine Zd ?_
  refine Zw rfl (fun hb3 => ?_) (fun hb3 => ?_)
  ·
   have h3 := of_decide_eq_true hb3
   obtain ⟨⟨kd, sr, ds⟩, hc⟩ : ∃ c, l[i]? = some c := ⟨_, List.getElem?_eq_getElem (by omega)⟩
   have hcut : cut (chgsC l) (i * 3) 3 = [.int .i64 kd, .int .i64 sr, .int .i64 ds] := chgsC_cut hc
   have hT := lenL_take hc
   have hlb := lenL_le (l.take i)
   rw [List.length_take, Nat.min_eq_left (by omega)] at hlb
   have h1u := h1.mono hle3
   refine Zv (Zd (Ze (Zq (Ze (Zb (ym rfl rfl (ym rfl rfl ?_)))))))
   refine Zg (Zs rfl Tryd.s26 rfl rfl h1u rfl (by omega)) rfl (Zg (Zbc rfl Tryd.f51' rfl (by decide) rfl) rfl (Zg (Zr rfl Tryd.k3 rfl h1u (by omega) hcut (vs := [_]) rfl rfl rfl rfl) rfl (Zf (ρ' := [(0, _), (3, _), (4, _), (15, _)]) ⟨rfl, rfl, rfl, rfl, trivial⟩ ?_)))
   refine Zd (Zq ?_)
   refine wc_cut (fun ρ σ uci8 => VLe u' uci8 ∧ σ = [] ∧ ρ = [(0, .v (.slice ad l.length cap)), (3, .v (.int .i64 ((lenL (l.take i) : Nat) : Int))), (4, .v (.int .i64 i)), (15, .v (.int .i64 kd)), (16, .v (.bool (decide (kd = 2 ∨ kd = 3))))] ∧ (True)) ?_ ?_
   ·
    refine Ze (Zb (Zg (Zbl rfl rfl rfl) rfl (ya rfl rfl (Zf (ρ' := [(0, _), (3, _), (4, _), (15, _), (16, _)]) ⟨rfl, rfl, rfl, rfl, rfl, trivial⟩ ?_))))
    refine Zd ?_
    refine Zw rfl (fun hb6 => ?_) (fun hb6 => ?_)
    ·
     refine Zv (Zab ?_)
     refine ⟨[(0, _), (3, _), (4, _), (15, _), (16, _)], [], ⟨rfl, rfl, rfl, rfl, rfl, trivial⟩, trivial, (VLe.refl _), rfl, (by first | rfl | (simp only [List.cons.injEq, Prod.mk.injEq, SV.v.injEq, Value.bool.injEq, eq_self, true_and, and_true]; exact decide_eq_decide.2 (by simp only [decide_eq_true_eq, decide_eq_false_iff_not] at *; omega))), ?_⟩
     trivial
    ·
     refine Zb (Zg (Zbl rfl rfl rfl) rfl (ya rfl rfl (Zf (ρ' := [(0, _), (3, _), (4, _), (15, _), (16, _)]) ⟨rfl, rfl, rfl, rfl, rfl, trivial⟩ ?_)))
     refine Zab ?_
     refine ⟨[(0, _), (3, _), (4, _), (15, _), (16, _)], [], ⟨rfl, rfl, rfl, rfl, rfl, trivial⟩, trivial, (VLe.refl _), rfl, (by first | rfl | (simp only [List.cons.injEq, Prod.mk.injEq, SV.v.injEq, Value.bool.injEq, eq_self, true_and, and_true]; exact decide_eq_decide.2 (by simp only [decide_eq_true_eq, decide_eq_false_iff_not] at *; omega))), ?_⟩
     trivial
   ·
    rintro ρ σ uci8 ⟨hlci8, rfl, rfl, hci8⟩
    refine Zw rfl (fun hb7 => ?_) (fun hb7 => ?_)
    ·
     have hC : lenC ⟨kd, sr, ds⟩ = 1 := if_pos (of_decide_eq_true hb7)
     refine Zb (ym rfl rfl (Zg (Zap rfl rfl rfl (Zk (by omega))) rfl ?_))
     refine ya rfl rfl (Zf (ρ' := [(0, _), (3, _), (4, _)]) ⟨rfl, rfl, rfl, trivial⟩ ?_)
     refine Zah (Zah (Zd (Zb (ym rfl rfl (Zg (Zap rfl rfl rfl (Zk (by omega))) rfl ?_)))))
     refine ya rfl rfl (Zf (ρ' := [(0, _), (3, _), (4, _)]) ⟨rfl, rfl, rfl, trivial⟩ ?_)
     refine Zab ?_
     refine ⟨m - 1, [(0, _), (3, _), (4, _)], [], by omega, ⟨rfl, rfl, rfl, trivial⟩, trivial, i + 1, by omega, (hle3.trans hlci8), (by first | rfl | simp), (by first | rfl | (simp only [List.cons.injEq, Prod.mk.injEq, SV.v.injEq, Value.int.injEq, true_and, and_true]; omega) | simp), ?_⟩
     trivial
    ·
     have hn23 := of_decide_eq_false hb7
     refine Ze (Zb (Zg (Zbl rfl rfl rfl) rfl (ya rfl rfl (Zf (ρ' := [(0, _), (3, _), (4, _), (21, _)]) ⟨rfl, rfl, rfl, rfl, trivial⟩ ?_))))
     refine Zd ?_
     refine Zw rfl (fun hb9 => ?_) (fun hb9 => ?_)
     ·
      have hC : lenC ⟨kd, sr, ds⟩ = 2 := (if_neg hn23).trans (if_pos (of_decide_eq_true hb9))
      refine Zb (ym rfl rfl (Zg (Zap rfl rfl rfl (Zk (by omega))) rfl ?_))
      refine ya rfl rfl (Zf (ρ' := [(0, _), (3, _), (4, _)]) ⟨rfl, rfl, rfl, trivial⟩ ?_)
      refine Zah (Zah (Zd (Zb (ym rfl rfl (Zg (Zap rfl rfl rfl (Zk (by omega))) rfl ?_)))))
      refine ya rfl rfl (Zf (ρ' := [(0, _), (3, _), (4, _)]) ⟨rfl, rfl, rfl, trivial⟩ ?_)
      refine Zab ?_
      refine ⟨m - 1, [(0, _), (3, _), (4, _)], [], by omega, ⟨rfl, rfl, rfl, trivial⟩, trivial, i + 1, by omega, (hle3.trans hlci8), (by first | rfl | simp), (by first | rfl | (simp only [List.cons.injEq, Prod.mk.injEq, SV.v.injEq, Value.int.injEq, true_and, and_true]; omega) | simp), ?_⟩
      trivial
     ·
      have hC : lenC ⟨kd, sr, ds⟩ = 0 := (if_neg hn23).trans (if_neg (of_decide_eq_false hb9))
      refine Zv (Zah (Zah (Zd (Zb (ym rfl rfl (Zg (Zap rfl rfl rfl (Zk (by omega))) rfl ?_))))))
      refine ya rfl rfl (Zf (ρ' := [(0, _), (3, _), (4, _)]) ⟨rfl, rfl, rfl, trivial⟩ ?_)
      refine Zab ?_
      refine ⟨m - 1, [(0, _), (3, _), (4, _)], [], by omega, ⟨rfl, rfl, rfl, trivial⟩, trivial, i + 1, by omega, (hle3.trans hlci8), (by first | rfl | simp), (by first | rfl | (simp only [List.cons.injEq, Prod.mk.injEq, SV.v.injEq, Value.int.injEq, true_and, and_true]; omega) | simp), ?_⟩
      trivial
  ·
   have h3 := of_decide_eq_false hb3
   refine Zan ?_
   refine Zh (Zh ?_)
   refine Zu ?_
   refine Zd (Ze (Zb (ym rfl rfl (ya rfl rfl (Zf (ρ' := [(2, _)]) ⟨rfl, trivial⟩ ?_)))))
   refine Zd (Zaj (Zbf (.tmp rfl) ?_))
   rw [List.take_of_length_le (by omega)]
def x1L (a : List Bs) (kd s : Int) : List Bs := if kd = 1 then tkL a s else []
def x2L (b : List Bs) (kd d : Int) : List Bs := if kd = 3 ∨ kd = 4 then tkL b d else []
theorem takeC_x (a b : List Bs) (kd s d : Int) : takeC a b ⟨kd, s, d⟩ = x1L a kd s ++ x2L b kd d := by
 unfold x1L x2L
 by_cases h : kd = 1
 ·
  rw [takeC_1 a b kd s d h, if_pos h, if_neg (by omega), List.append_nil]
 ·
  by_cases h2 : kd = 3 ∨ kd = 4
  ·
   rw [takeC_34 a b kd s d h h2, if_neg h, if_pos h2, List.nil_append]
  ·
   rw [takeC_0 a b kd s d h h2, if_neg h, if_neg h2]; rfl
theorem tkL_some {a : List Bs} {j : Int} (h : 0 ≤ j ∧ j < (a.length : Int)) : ∃ (n : Nat) (s : Bs), j = (n : Int) ∧ a[n]? = some s ∧ tkL a j = [s] := by
 obtain ⟨n, rfl⟩ : ∃ n : Nat, j = n := ⟨j.toNat, by omega⟩
 have hn : n < a.length := by omega
 exact ⟨n, a[n], rfl, List.getElem?_eq_getElem hn, by simp [tkL, hn]⟩
theorem tkL_none {a : List Bs} {j : Int} (h : ¬ (0 ≤ j ∧ j < (a.length : Int))) : tkL a j = [] := by
 unfold tkL
 split
 ·
  rw [List.getElem?_eq_none (by omega)]; rfl
 ·
  rfl
set_option maxHeartbeats 8000000 in
theorem refPatch_fn (a b : List Bs) (l : List Chg) (hl : l.length ≤ 10000) (va vb v : Value) (u : View) (ha : StrS u va a) (hb : StrS u vb b) (hv : ChS u v l) :
  FnP Tryd.prog 24 [va, vb, v] u fun r u' => StrS u' r (patchL a b l) := by
 obtain ⟨aA, cA, rfl, hA⟩ := ha
 obtain ⟨aB, cB, rfl, hB⟩ := hb
 obtain ⟨ad, cap, rfl, h1⟩ := hv
 refine FnP.intro [.tmp 6] Tryd.func24 rfl rfl rfl ?_
 intro w0 D hw0
 refine Ze (Zb (ya rfl rfl (Zf (ρ' := [(0, _), (1, _), (2, _)]) ⟨rfl, rfl, rfl, trivial⟩ ?_)))
 refine Zd (Ze (Zb (ya rfl rfl ?_)))
 refine Zbv 7 507 9 1 rfl rfl rfl ?_
 refine Zf (ρ' := [(0, _), (1, _), (2, _), (7, _)]) ⟨rfl, rfl, rfl, rfl, trivial⟩ ?_
 refine Zd (Ze (Ze (Zb (ya rfl rfl (Zf (ρ' := [(0, _), (1, _), (2, _), (7, _), (8, _)]) ⟨rfl, rfl, rfl, rfl, rfl, trivial⟩ ?_)))))
 refine Zd (Zq ?_)
 refine Zaq (fun m_0 ρ σ u' => ∃ i : Nat, i + m_0 = l.length ∧ VLe u u' ∧ σ = [(507, (none, .row 9 1 (patchL a b (l.take i)).length (strsC (patchL a b (l.take i)))))] ∧ ρ = [(0, .v (.slice aA a.length cA)), (1, .v (.slice aB b.length cB)), (2, .v (.slice ad l.length cap)), (7, .s 507), (8, .v (.int .i64 i))] ∧ (True)) (l.length) ?_ ?_
 ·
  refine ⟨[(0, _), (1, _), (2, _), (7, _), (8, _)], [(507, _)], ⟨rfl, rfl, rfl, rfl, rfl, trivial⟩, ⟨rfl, trivial⟩, 0, by omega, VLe.refl _, (by first | rfl | simp), (by first | rfl | (simp only [List.cons.injEq, Prod.mk.injEq, SV.v.injEq, Value.int.injEq, true_and, and_true]; omega) | simp), ?_⟩
  trivial
 ·
  rintro m ρ σ u' ⟨i, hi3, hle3, rfl, rfl, hinv3⟩
  refine Ze (Ze (Zb (ym rfl rfl (ym rfl rfl (Zg (Zx rfl rfl Tryd.s26 rfl) rfl (Zg (Zav rfl rfl rfl) rfl (Zf (ρ' := [(0, _), (1, _), (2, _), (7, _), (8, _), (13, _)]) ⟨rfl, rfl, rfl, rfl, rfl, rfl, trivial⟩ ?_)))))))
  refine Zd ?_
  refine Zw rfl (fun hb3 => ?_) (fun hb3 => ?_)
  ·
   have h3 := of_decide_eq_true hb3
   obtain ⟨⟨kd, sr, ds⟩, hc⟩ : ∃ c, l[i]? = some c := ⟨_, List.getElem?_eq_getElem (by omega)⟩
   have hcut : cut (chgsC l) (i * 3) 3 = [.int .i64 kd, .int .i64 sr, .int .i64 ds] := chgsC_cut hc
   have hT := patchL_take (a := a) (b := b) hc
   rw [takeC_x] at hT
   have hlb := patchL_len a b (l.take i)
   rw [List.length_take, Nat.min_eq_left (by omega)] at hlb
   have h1u := h1.mono hle3
   have ha3 := hA.mono hle3
   have hb3' := hB.mono hle3
   obtain ⟨L, hL⟩ : ∃ L, L = patchL a b (l.take i) := ⟨_, rfl⟩
   rw [← hL] at hlb hT ⊢
   refine Zv (Zd (Ze (Zq (Ze (Zb (ym rfl rfl (ym rfl rfl ?_)))))))
   refine Zg (Zs rfl Tryd.s26 rfl rfl h1u rfl (by omega)) rfl (Zg (Zr rfl Tryd.k51 rfl h1u (by omega) hcut (vs := [_, _, _]) rfl rfl rfl rfl) rfl (Zt rfl rfl ?_))
   refine Zau trivial Tryd.z51 rfl rfl rfl ?_
   refine Zt rfl rfl ?_
   refine Zao trivial rfl Tryd.k51 rfl rfl rfl (vs := [_, _, _]) rfl rfl (by first | rfl | assumption | simp [Value.oneCell', str]) (Nat.le_of_ble_eq_true rfl) rfl ?_
   refine Zf (ρ' := [(0, _), (1, _), (2, _), (7, _), (8, _), (9, _)]) ⟨rfl, rfl, rfl, rfl, rfl, rfl, trivial⟩ ?_
   refine Zd ?_
   refine wc_cut (fun ρ σ uc8 => ∃ (M : List Bs) (s9 : Int), VLe u' uc8 ∧ σ = [(9, (none, .box [.int .i64 kd, .int .i64 s9, .int .i64 ds])), (507, (none, .row 9 1 M.length (strsC M)))] ∧ ρ = [(0, .v (.slice aA a.length cA)), (1, .v (.slice aB b.length cB)), (2, .v (.slice ad l.length cap)), (7, .s 507), (8, .v (.int .i64 i)), (9, .p 9 0)] ∧ (patchL a b (l.take (i + 1)) = M ++ x2L b kd ds ∧ M.length ≤ L.length + 1)) ?_ ?_
   ·
    refine Ze ?_
    refine Zbd 34 (decide (kd = 1 ∧ 0 ≤ sr ∧ sr < (a.length : Int))) (ρk := [(0, _), (1, _), (2, _), (7, _), (8, _), (9, _)]) ⟨rfl, rfl, rfl, rfl, rfl, rfl, trivial⟩ ?_ ?_
    ·
     refine Zb (Zg (Zi rfl Tryd.f51' rfl (by decide) rfl) rfl (Zg (Zl rfl Tryd.k3 rfl rfl rfl (vs := [_]) rfl rfl rfl) rfl (Zg (Zbl rfl rfl rfl) rfl (ym rfl rfl ?_))))
     refine Zar 23 rfl (fun hg6_3 => ?_) (fun hg6_3 => ?_)
     ·
      refine Zp rfl rfl (Zg (Zi rfl Tryd.f51' rfl (by decide) rfl) rfl (Zp rfl rfl (Zg (Zl rfl Tryd.k3 rfl rfl rfl (vs := [_]) rfl rfl rfl) rfl (Zp rfl rfl (Zg (y_geq rfl rfl rfl) rfl (Zg (Zo rfl rfl rfl) rfl (ym rfl rfl ?_)))))))
      refine Zar 28 rfl (fun hg6_8 => ?_) (fun hg6_8 => ?_)
      ·
       refine Zp rfl rfl (Zg (Zi rfl Tryd.f51' rfl (by decide) rfl) rfl (Zp rfl rfl (Zg (Zl rfl Tryd.k3 rfl rfl rfl (vs := [_]) rfl rfl rfl) rfl (Zp rfl rfl (ym rfl rfl (Zp rfl rfl (Zg (Zx rfl rfl Tryd.s22 rfl) rfl ?_)))))))
       refine Zp rfl rfl (Zg (Zav rfl rfl rfl) rfl (Zg (Zo rfl rfl rfl) rfl ?_))
       exact Zam rfl ⟨rfl, rfl, rfl, rfl, rfl, rfl, trivial⟩ (by
       first
       | (refine (decide_eq_false fun h => ?_).symm; have := of_decide_eq_false hg6_3; omega)
       | (refine (decide_eq_false fun h => ?_).symm; have := of_decide_eq_false hg6_8; omega)
       | (refine decide_eq_decide.2 ?_; have := of_decide_eq_true hg6_3; have := of_decide_eq_true hg6_8; omega))
      ·
       iterate 5 refine Zaf rfl rfl rfl rfl ?_
       refine Zg (Zad rfl rfl rfl) rfl ?_
       exact Zam rfl ⟨rfl, rfl, rfl, rfl, rfl, rfl, trivial⟩ (by
       first
       | (refine (decide_eq_false fun h => ?_).symm; have := of_decide_eq_false hg6_3; omega)
       | (refine (decide_eq_false fun h => ?_).symm; have := of_decide_eq_false hg6_8; omega)
       | (refine decide_eq_decide.2 ?_; have := of_decide_eq_true hg6_3; have := of_decide_eq_true hg6_8; omega))
     ·
      iterate 3 refine Zaf rfl rfl rfl rfl ?_
      refine Zg (Zad rfl rfl rfl) rfl (ym rfl rfl ?_)
      iterate 5 refine Zaf rfl rfl rfl rfl ?_
      refine Zg (Zad rfl rfl rfl) rfl ?_
      exact Zam rfl ⟨rfl, rfl, rfl, rfl, rfl, rfl, trivial⟩ (by
      first
      | (refine (decide_eq_false fun h => ?_).symm; have := of_decide_eq_false hg6_3; omega)
      | (refine (decide_eq_false fun h => ?_).symm; have := of_decide_eq_false hg6_8; omega)
      | (refine decide_eq_decide.2 ?_; have := of_decide_eq_true hg6_3; have := of_decide_eq_true hg6_8; omega))
    refine Zd ?_
    refine Zw rfl (fun hb6 => ?_) (fun hb6 => ?_)
    ·
     have h6 := of_decide_eq_true hb6
     obtain ⟨jn, s, hj, hs, hX⟩ := tkL_some h6.2
     subst hj
     have hcs := strsC_cut hs
     have hX1 : x1L a kd jn = [s] := by rw [x1L, if_pos h6.1, hX]
     have hLs : (L ++ [s]).length = L.length + 1 := by simp
     refine Zb (ym rfl rfl (ym rfl rfl (Zg (Zi rfl Tryd.f51' rfl (by decide) rfl) rfl (Zg (Zl rfl Tryd.k3 rfl rfl rfl (vs := [_]) rfl rfl rfl) rfl (Zg (Zs rfl Tryd.s22 rfl rfl ha3 rfl (by omega)) rfl (Zg (Zr rfl Tryd.k9 rfl ha3 (by omega) hcs (vs := [_]) rfl rfl rfl rfl) rfl (Zt rfl rfl ?_)))))))
     refine Zai trivial Tryd.s22 Tryd.z9 (ps := [(_, _)]) rfl (xs := [_]) rfl rfl rfl rfl rfl rfl rfl ?_
     refine Zt rfl rfl ?_
     refine Zay trivial rfl rfl Tryd.s22 Tryd.z9 rfl rfl rfl rfl rfl rfl (by first | rfl | assumption | simp [Value.oneCell', str]) (by omega) (by omega) (ρ' := [(0, _), (1, _), (2, _), (8, _), (9, _)]) ⟨rfl, rfl, rfl, rfl, rfl, trivial⟩ rfl rfl rfl ?_
     refine ya rfl rfl ?_
     refine Zbu 42 507 rfl rfl rfl ?_
     refine Zf (ρ' := [(0, _), (1, _), (2, _), (7, _), (8, _), (9, _)]) ⟨rfl, rfl, rfl, rfl, rfl, rfl, trivial⟩ ?_
     refine Zab ?_
     first
      | (refine ⟨[(0, _), (1, _), (2, _), (7, _), (8, _), (9, _)], [(9, _), (507, _)], ⟨rfl, rfl, rfl, rfl, rfl, rfl, trivial⟩, ⟨rfl, rfl, trivial⟩, L ++ [s], _, (VLe.refl _), (by first | rfl | (rw [strsC_snoc, List.length_append]; rfl)), (by first | rfl | simp), ?_⟩
         exact ⟨by rw [hT, hX1, List.append_assoc], by omega⟩)
      | (refine ⟨[(0, _), (1, _), (2, _), (7, _), (8, _), (9, _)], [(9, _), (507, _)], ⟨rfl, rfl, rfl, rfl, rfl, rfl, trivial⟩, ⟨rfl, rfl, trivial⟩, L, _, (VLe.refl _), (by first | rfl | (rw [strsC_snoc, List.length_append]; rfl)), (by first | rfl | simp), ?_⟩
         exact ⟨by rw [hT, hX1, List.nil_append], by omega⟩)
    ·
     have h6 := of_decide_eq_false hb6
     have hX1 : x1L a kd sr = [] := by
      unfold x1L
      split
      ·
       rw [tkL_none (by omega)]
      ·
       rfl
     refine Zv (Zab ?_)
     first
      | (refine ⟨[(0, _), (1, _), (2, _), (7, _), (8, _), (9, _)], [(9, _), (507, _)], ⟨rfl, rfl, rfl, rfl, rfl, rfl, trivial⟩, ⟨rfl, rfl, trivial⟩, L ++ [s], _, (VLe.refl _), (by first | rfl | (rw [strsC_snoc, List.length_append]; rfl)), (by first | rfl | simp), ?_⟩
         exact ⟨by rw [hT, hX1, List.append_assoc], by omega⟩)
      | (refine ⟨[(0, _), (1, _), (2, _), (7, _), (8, _), (9, _)], [(9, _), (507, _)], ⟨rfl, rfl, rfl, rfl, rfl, rfl, trivial⟩, ⟨rfl, rfl, trivial⟩, L, _, (VLe.refl _), (by first | rfl | (rw [strsC_snoc, List.length_append]; rfl)), (by first | rfl | simp), ?_⟩
         exact ⟨by rw [hT, hX1, List.nil_append], by omega⟩)
   ·
    rintro ρ σ uc8 ⟨M, s9, hlc8, rfl, rfl, ⟨hM, hMl⟩⟩
    refine Ze ?_
    refine Zbd 62 (decide ((kd = 3 ∨ kd = 4) ∧ 0 ≤ ds ∧ ds < (b.length : Int))) (ρk := [(0, _), (1, _), (2, _), (7, _), (8, _), (9, _)]) ⟨rfl, rfl, rfl, rfl, rfl, rfl, trivial⟩ ?_ ?_
    ·
     refine Zb (Zg (Zi rfl Tryd.f51' rfl (by decide) rfl) rfl (Zg (Zl rfl Tryd.k3 rfl rfl rfl (vs := [_]) rfl rfl rfl) rfl (Zg (Zbl rfl rfl rfl) rfl (ym rfl rfl ?_))))
     refine Zar 46 rfl (fun hg8_3 => ?_) (fun hg8_3 => ?_)
     ·
      iterate 3 refine Zaf rfl rfl rfl rfl ?_
      refine Zg (Zo rfl rfl rfl) rfl (ym rfl rfl (Zp rfl rfl (Zg (Zi rfl Tryd.f51' rfl (by decide) rfl) rfl (Zp rfl rfl (Zg (Zl rfl Tryd.k3 rfl rfl rfl (vs := [_]) rfl rfl rfl) rfl (Zp rfl rfl (Zg (y_geq rfl rfl rfl) rfl ?_)))))))
      refine Zg (Zo rfl rfl rfl) rfl (ym rfl rfl ?_)
      refine Zar 56 rfl (fun hg8_13 => ?_) (fun hg8_13 => ?_)
      ·
       refine Zp rfl rfl (Zg (Zi rfl Tryd.f51' rfl (by decide) rfl) rfl (Zp rfl rfl (Zg (Zl rfl Tryd.k3 rfl rfl rfl (vs := [_]) rfl rfl rfl) rfl (Zp rfl rfl (ym rfl rfl (Zp rfl rfl (Zg (Zx rfl rfl Tryd.s22 rfl) rfl ?_)))))))
       refine Zp rfl rfl (Zg (Zav rfl rfl rfl) rfl (Zg (Zo rfl rfl rfl) rfl ?_))
       exact Zam rfl ⟨rfl, rfl, rfl, rfl, rfl, rfl, trivial⟩ (by
       first
       | (refine (decide_eq_false fun h => ?_).symm; have := of_decide_eq_false hg8_8; have := of_decide_eq_false hg8_3; omega)
       | (refine (decide_eq_false fun h => ?_).symm; have := of_decide_eq_false hg8_13; omega)
       | (refine decide_eq_decide.2 ?_; have := of_decide_eq_true hg8_13; have := of_decide_eq_true hg8_3; omega)
       | (refine decide_eq_decide.2 ?_; have := of_decide_eq_true hg8_13; have := of_decide_eq_true hg8_8; omega))
      ·
       iterate 5 refine Zaf rfl rfl rfl rfl ?_
       refine Zg (Zad rfl rfl rfl) rfl ?_
       exact Zam rfl ⟨rfl, rfl, rfl, rfl, rfl, rfl, trivial⟩ (by
       first
       | (refine (decide_eq_false fun h => ?_).symm; have := of_decide_eq_false hg8_8; have := of_decide_eq_false hg8_3; omega)
       | (refine (decide_eq_false fun h => ?_).symm; have := of_decide_eq_false hg8_13; omega)
       | (refine decide_eq_decide.2 ?_; have := of_decide_eq_true hg8_13; have := of_decide_eq_true hg8_3; omega)
       | (refine decide_eq_decide.2 ?_; have := of_decide_eq_true hg8_13; have := of_decide_eq_true hg8_8; omega))
     ·
      refine Zp rfl rfl (Zg (Zi rfl Tryd.f51' rfl (by decide) rfl) rfl (Zp rfl rfl (Zg (Zl rfl Tryd.k3 rfl rfl rfl (vs := [_]) rfl rfl rfl) rfl (Zp rfl rfl (Zg (Zbl rfl rfl rfl) rfl (Zg (Zad rfl rfl rfl) rfl (ym rfl rfl ?_)))))))
      refine Zar 51 rfl (fun hg8_8 => ?_) (fun hg8_8 => ?_)
      ·
       refine Zp rfl rfl (Zg (Zi rfl Tryd.f51' rfl (by decide) rfl) rfl (Zp rfl rfl (Zg (Zl rfl Tryd.k3 rfl rfl rfl (vs := [_]) rfl rfl rfl) rfl (Zp rfl rfl (Zg (y_geq rfl rfl rfl) rfl (Zg (Zo rfl rfl rfl) rfl (ym rfl rfl ?_)))))))
       refine Zar 56 rfl (fun hg8_13 => ?_) (fun hg8_13 => ?_)
       ·
        refine Zp rfl rfl (Zg (Zi rfl Tryd.f51' rfl (by decide) rfl) rfl (Zp rfl rfl (Zg (Zl rfl Tryd.k3 rfl rfl rfl (vs := [_]) rfl rfl rfl) rfl (Zp rfl rfl (ym rfl rfl (Zp rfl rfl (Zg (Zx rfl rfl Tryd.s22 rfl) rfl ?_)))))))
        refine Zp rfl rfl (Zg (Zav rfl rfl rfl) rfl (Zg (Zo rfl rfl rfl) rfl ?_))
        exact Zam rfl ⟨rfl, rfl, rfl, rfl, rfl, rfl, trivial⟩ (by
        first
        | (refine (decide_eq_false fun h => ?_).symm; have := of_decide_eq_false hg8_8; have := of_decide_eq_false hg8_3; omega)
        | (refine (decide_eq_false fun h => ?_).symm; have := of_decide_eq_false hg8_13; omega)
        | (refine decide_eq_decide.2 ?_; have := of_decide_eq_true hg8_13; have := of_decide_eq_true hg8_3; omega)
        | (refine decide_eq_decide.2 ?_; have := of_decide_eq_true hg8_13; have := of_decide_eq_true hg8_8; omega))
       ·
        iterate 5 refine Zaf rfl rfl rfl rfl ?_
        refine Zg (Zad rfl rfl rfl) rfl ?_
        exact Zam rfl ⟨rfl, rfl, rfl, rfl, rfl, rfl, trivial⟩ (by
        first
        | (refine (decide_eq_false fun h => ?_).symm; have := of_decide_eq_false hg8_8; have := of_decide_eq_false hg8_3; omega)
        | (refine (decide_eq_false fun h => ?_).symm; have := of_decide_eq_false hg8_13; omega)
        | (refine decide_eq_decide.2 ?_; have := of_decide_eq_true hg8_13; have := of_decide_eq_true hg8_3; omega)
        | (refine decide_eq_decide.2 ?_; have := of_decide_eq_true hg8_13; have := of_decide_eq_true hg8_8; omega))
      ·
       iterate 3 refine Zaf rfl rfl rfl rfl ?_
       refine Zg (Zad rfl rfl rfl) rfl (ym rfl rfl ?_)
       iterate 5 refine Zaf rfl rfl rfl rfl ?_
       refine Zg (Zad rfl rfl rfl) rfl ?_
       exact Zam rfl ⟨rfl, rfl, rfl, rfl, rfl, rfl, trivial⟩ (by
       first
       | (refine (decide_eq_false fun h => ?_).symm; have := of_decide_eq_false hg8_8; have := of_decide_eq_false hg8_3; omega)
       | (refine (decide_eq_false fun h => ?_).symm; have := of_decide_eq_false hg8_13; omega)
       | (refine decide_eq_decide.2 ?_; have := of_decide_eq_true hg8_13; have := of_decide_eq_true hg8_3; omega)
       | (refine decide_eq_decide.2 ?_; have := of_decide_eq_true hg8_13; have := of_decide_eq_true hg8_8; omega))
    refine Zd ?_
    refine Zw rfl (fun hb8 => ?_) (fun hb8 => ?_)
    ·
     have h8 := of_decide_eq_true hb8
     obtain ⟨jm, s2, hj2, hs2, hX2'⟩ := tkL_some h8.2
     subst hj2
     have hcs2 := strsC_cut hs2
     have hX2 : x2L b kd jm = [s2] := by rw [x2L, if_pos h8.1, hX2']
     rw [hX2] at hM
     refine Zb (ym rfl rfl (ym rfl rfl (Zg (Zi rfl Tryd.f51' rfl (by decide) rfl) rfl (Zg (Zl rfl Tryd.k3 rfl rfl rfl (vs := [_]) rfl rfl rfl) rfl (Zg (Zs rfl Tryd.s22 rfl rfl (hb3'.mono hlc8) rfl (by omega)) rfl (Zg (Zr rfl Tryd.k9 rfl (hb3'.mono hlc8) (by omega) hcs2 (vs := [_]) rfl rfl rfl rfl) rfl (Zt rfl rfl ?_)))))))
     refine Zai trivial Tryd.s22 Tryd.z9 (ps := [(_, _)]) rfl (xs := [_]) rfl rfl rfl rfl rfl rfl rfl ?_
     refine Zt rfl rfl ?_
     refine Zay trivial rfl rfl Tryd.s22 Tryd.z9 rfl rfl rfl rfl rfl rfl (by first | rfl | assumption | simp [Value.oneCell', str]) (by omega) (by omega) (ρ' := [(0, _), (1, _), (2, _), (8, _)]) ⟨rfl, rfl, rfl, rfl, trivial⟩ rfl rfl rfl ?_
     refine ya rfl rfl ?_
     refine Zbu 70 507 rfl rfl rfl ?_
     refine Zf (ρ' := [(0, _), (1, _), (2, _), (7, _), (8, _)]) ⟨rfl, rfl, rfl, rfl, rfl, trivial⟩ ?_
     refine Zah (Zd (Zb (ym rfl rfl (Zg (Zap rfl rfl rfl (Zk (by omega))) rfl ?_))))
     refine ya rfl rfl (Zf (ρ' := [(0, _), (1, _), (2, _), (7, _), (8, _)]) ⟨rfl, rfl, rfl, rfl, rfl, trivial⟩ ?_)
     refine Zab ?_
     refine ⟨m - 1, [(0, _), (1, _), (2, _), (7, _), (8, _)], [(507, _)], by omega, ⟨rfl, rfl, rfl, rfl, rfl, trivial⟩, ⟨rfl, trivial⟩, i + 1, by omega, (hle3.trans hlc8), (by first | (rw [hM, strsC_snoc, List.length_append]; rfl) | (rw [hM])), (by first | rfl | simp), ?_⟩
     trivial
    ·
     have h8 := of_decide_eq_false hb8
     have hX2 : x2L b kd ds = [] := by
      unfold x2L
      split
      ·
       rw [tkL_none (by omega)]
      ·
       rfl
     rw [hX2, List.append_nil] at hM
     refine Zv (Zah (Zd (Zb (ym rfl rfl (Zg (Zap rfl rfl rfl (Zk (by omega))) rfl ?_)))))
     refine ya rfl rfl (Zf (ρ' := [(0, _), (1, _), (2, _), (7, _), (8, _)]) ⟨rfl, rfl, rfl, rfl, rfl, trivial⟩ ?_)
     refine Zab ?_
     refine ⟨m - 1, [(0, _), (1, _), (2, _), (7, _), (8, _)], [(507, _)], by omega, ⟨rfl, rfl, rfl, rfl, rfl, trivial⟩, ⟨rfl, trivial⟩, i + 1, by omega, (hle3.trans hlc8), (by first | (rw [hM, strsC_snoc, List.length_append]; rfl) | (rw [hM])), (by first | rfl | simp), ?_⟩
     trivial
  ·
   have h3 := of_decide_eq_false hb3
   rw [List.take_of_length_le (by omega)]
   refine Zan ?_
   refine Zh (Zh ?_)
   refine Zu ?_
   refine Zd (Ze (Zb (ym rfl rfl ?_)))
   refine Zaz 507 rfl ?_
   intro ad507 cap507 uF hleF hF
   refine ya rfl rfl (Zf (ρ' := [(6, _)]) ⟨rfl, trivial⟩ ?_)
   refine Zd (Zaj (Zbf (.tmp rfl) ?_))
   exact ⟨_, _, rfl, hF⟩
set_option maxHeartbeats 2000000 in
theorem sameChanges_fn (l : List Chg) (hl : l.length ≤ 100000) (v w : Value) (u : View) (h1 : ChS u v l) (h2 : ChS u w l) :
  FnP Tryd.prog 12 [v, w] u fun r _ => r = .bool true := by
 obtain ⟨ad, cap, rfl, h1⟩ := h1
 obtain ⟨ad2, cap2, rfl, h2⟩ := h2
 refine FnP.intro [.tmp 4] Tryd.func12 rfl rfl rfl ?_
 intro w0 D hw0
 refine Ze (Zb (ya rfl rfl (Zf (ρ' := [(0, _), (1, _)]) ⟨rfl, rfl, trivial⟩ ?_)))
 refine Zd (Ze (Ze (Zb (ym rfl rfl (Zg (Zx rfl rfl Tryd.s26 rfl) rfl (ym rfl rfl (Zg (Zx rfl rfl Tryd.s26 rfl) rfl ?_)))))))
 refine Zg (y_neq_refl rfl rfl rfl) rfl (Zf (ρ' := [(0, _), (1, _), (10, _)]) ⟨rfl, rfl, rfl, trivial⟩ ?_)
 refine Zd (Zbo rfl (rfl) (Zv (Zd (Ze (Ze (Zb (ya rfl rfl (Zf (ρ' := [(0, _), (1, _), (5, _)]) ⟨rfl, rfl, rfl, trivial⟩ ?_))))))))
 refine Zd (Zq ?_)
 refine Zaq (fun m_0 ρ σ u' => ∃ i : Nat, i + m_0 = l.length ∧ VLe u u' ∧ σ = [] ∧ ρ = [(0, .v (.slice ad l.length cap)), (1, .v (.slice ad2 l.length cap2)), (5, .v (.int .i64 i))] ∧ (True)) (l.length) ?_ ?_
 ·
  refine ⟨[(0, _), (1, _), (5, _)], [], ⟨rfl, rfl, rfl, trivial⟩, trivial, 0, by omega, VLe.refl _, (by first | rfl | simp), (by first | rfl | (simp only [List.cons.injEq, Prod.mk.injEq, SV.v.injEq, Value.int.injEq, true_and, and_true]; omega) | simp), ?_⟩
  trivial
 ·
  rintro m ρ σ u' ⟨i, hi4, hle4, rfl, rfl, hinv4⟩
  refine Ze (Ze (Zb (ym rfl rfl (ym rfl rfl (Zg (Zx rfl rfl Tryd.s26 rfl) rfl (Zg (Zav rfl rfl rfl) rfl (Zf (ρ' := [(0, _), (1, _), (5, _), (14, _)]) ⟨rfl, rfl, rfl, rfl, trivial⟩ ?_)))))))
  refine Zd ?_
  refine Zw rfl (fun hb4 => ?_) (fun hb4 => ?_)
  ·
   have h4 := of_decide_eq_true hb4
   obtain ⟨⟨kd, sr, ds⟩, hc⟩ : ∃ c, l[i]? = some c := ⟨_, List.getElem?_eq_getElem (by omega)⟩
   have hcut : cut (chgsC l) (i * 3) 3 = [.int .i64 kd, .int .i64 sr, .int .i64 ds] := chgsC_cut hc
   have h1u := h1.mono hle4
   have h2u := h2.mono hle4
   refine Zv (Zd (Ze (Zq (Ze ?_))))
   refine Zbb Tryd.mixed rfl [] trivial ?_
   refine Zak 0 rfl (by kernel_rfl) (Za (Zc (Za (Za (Zc (Za (Zn))))))) (Zae rfl rfl) rfl (Zak 1 rfl (by kernel_rfl) (Za (Zc (Za (Za (Zc (Za (Zn))))))) (Zae rfl rfl) rfl ?_)
   refine Zak 2 rfl (by kernel_rfl) (Za (Zc (Za (Za (Zc (Za (Zn))))))) (Zs rfl Tryd.s26 rfl rfl h1u rfl (by omega)) rfl ?_
   refine Zak 3 rfl (by kernel_rfl) (Za (Zc (Za (Za (Zc (Za (Zn))))))) (Zr rfl Tryd.k51 rfl h1u (by omega) hcut (vs := [_, _, _]) rfl rfl rfl rfl) rfl ?_
   refine Zak 4 rfl (by kernel_rfl) (Za (Zc (Za (Za (Zc (Za (Zn))))))) (Zae rfl rfl) rfl (Zak 5 rfl (by kernel_rfl) (Za (Zc (Za (Za (Zc (Za (Zn))))))) (Zae rfl rfl) rfl ?_)
   refine Zak 6 rfl (by kernel_rfl) (Za (Zc (Za (Za (Zc (Za (Zn))))))) (Zs rfl Tryd.s26 rfl rfl h2u rfl (by omega)) rfl ?_
   refine Zak 7 rfl (by kernel_rfl) (Za (Zc (Za (Za (Zc (Za (Zn))))))) (Zr rfl Tryd.k51 rfl h2u (by omega) hcut (vs := [_, _, _]) rfl rfl rfl rfl) rfl ?_
   refine Zak 8 rfl (by kernel_rfl) (Za (Zc (Za (Za (Zc (Za (Zn))))))) (y_neq_flat_refl Tryd.q51 rfl rfl rfl rfl) rfl ?_
   refine Zbn (by kernel_rfl) (ρ' := [(0, _), (1, _), (5, _), (25, _)]) ⟨rfl, rfl, rfl, rfl, trivial⟩ ?_
   refine Zd (Zbo rfl (rfl) (Zv (Zah (Zd (Zb (ym rfl rfl (Zg (Zap rfl rfl rfl (Zk (by omega))) rfl ?_)))))))
   refine ya rfl rfl (Zf (ρ' := [(0, _), (1, _), (5, _)]) ⟨rfl, rfl, rfl, trivial⟩ ?_)
   refine Zab ?_
   refine ⟨m - 1, [(0, _), (1, _), (5, _)], [], by omega, ⟨rfl, rfl, rfl, trivial⟩, trivial, i + 1, by omega, hle4, (by first | rfl | simp), (by first | rfl | (simp only [List.cons.injEq, Prod.mk.injEq, SV.v.injEq, Value.int.injEq, true_and, and_true]; omega) | simp), ?_⟩
   trivial
  ·
   skip
   refine Zan ?_
   refine Zh (Zh ?_)
   refine Zu ?_
   refine Zd (Ze (Zb (ya rfl rfl (Zf (ρ' := [(4, _)]) ⟨rfl, trivial⟩ ?_))))
   refine Zd (Zaj (Zbf (.tmp rfl) ?_))
   rfl
set_option maxHeartbeats 2000000 in
theorem lawTexts_fn (a b : List Bs) (ha' : a.length ≤ 140737488351232) (hb' : b.length ≤ 140737488351232) (va vb : Value) (u : View) (ha : StrS u va a) (hb : StrS u vb b) :
  FnP Tryd.prog 22 [va, vb] u fun r _ => r = .bool (decide (a = b)) := by
 obtain ⟨aA, cA, rfl, hA⟩ := ha
 obtain ⟨aB, cB, rfl, hB⟩ := hb
 refine FnP.intro [.tmp 4] Tryd.func22 rfl rfl rfl ?_
 intro w0 D hw0
 refine Ze (Zb (ya rfl rfl (Zf (ρ' := [(0, _), (1, _)]) ⟨rfl, rfl, trivial⟩ ?_)))
 refine Zd (Ze (Ze (Zb (ym rfl rfl (Zg (Zx rfl rfl Tryd.s22 rfl) rfl (ym rfl rfl (Zg (Zx rfl rfl Tryd.s22 rfl) rfl ?_)))))))
 refine Zg (y_neq rfl rfl rfl) rfl (Zf (ρ' := [(0, _), (1, _), (10, _)]) ⟨rfl, rfl, rfl, trivial⟩ ?_)
 refine Zd ?_
 refine Zw rfl (fun hb1 => ?_) (fun hb1 => ?_)
 ·
  have h1 := of_decide_eq_true hb1
  refine Ze (Zb (ya rfl rfl (Zf (ρ' := [(4, _)]) ⟨rfl, trivial⟩ ?_)))
  refine Zd (Zaj (Zm (Zbf (.tmp rfl) ?_)))
  rw [decide_eq_false (fun e => h1 (by rw [e]))]
 ·
  have h1 := of_decide_eq_false hb1
  have hlen : a.length = b.length := by omega
  refine Zv (Zd (Ze (Ze (Zb (ya rfl rfl (Zf (ρ' := [(0, _), (1, _), (5, _)]) ⟨rfl, rfl, rfl, trivial⟩ ?_))))))
  refine Zd (Zq ?_)
  refine Zaq (fun m_0 ρ σ u' => ∃ i : Nat, i + m_0 = a.length ∧ VLe u u' ∧ σ = [] ∧ ρ = [(0, .v (.slice aA a.length cA)), (1, .v (.slice aB b.length cB)), (5, .v (.int .i64 i))] ∧ (∀ k, k < i → a[k]? = b[k]?)) (a.length) ?_ ?_
  ·
   refine ⟨[(0, _), (1, _), (5, _)], [], ⟨rfl, rfl, rfl, trivial⟩, trivial, 0, by omega, VLe.refl _, (by first | rfl | simp), (by first | rfl | (simp only [List.cons.injEq, Prod.mk.injEq, SV.v.injEq, Value.int.injEq, true_and, and_true]; omega) | simp), ?_⟩
   exact fun k hk => by omega
  ·
   rintro m ρ σ u' ⟨i, hi4, hle4, rfl, rfl, hsame⟩
   refine Ze (Ze ?_)
   refine Zbd 20 (decide (i < a.length)) (ρk := [(0, _), (1, _), (5, _)]) ⟨rfl, rfl, rfl, trivial⟩ ?_ ?_
   ·
    refine Zb (ym rfl rfl (ym rfl rfl (Zg (Zx rfl rfl Tryd.s22 rfl) rfl (Zg (Zav rfl rfl rfl) rfl (ym rfl rfl ?_)))))
    refine Zar 15 rfl (fun hg4_4 => ?_) (fun hg4_4 => ?_)
    ·
     refine Zp rfl rfl (ym rfl rfl (Zp rfl rfl (ym rfl rfl (Zp rfl rfl (Zg (Zx rfl rfl Tryd.s22 rfl) rfl (Zp rfl rfl (Zg (Zav rfl rfl rfl) rfl ?_)))))))
     refine Zg (Zo rfl rfl rfl) rfl ?_
     exact Zam rfl ⟨rfl, rfl, rfl, trivial⟩ (by
     first
     | (refine (decide_eq_false fun h => ?_).symm; have := of_decide_eq_false hg4_4; omega)
     | (refine decide_eq_decide.2 ?_; have := of_decide_eq_true hg4_4; omega))
    ·
     iterate 4 refine Zaf rfl rfl rfl rfl ?_
     refine Zg (Zad rfl rfl rfl) rfl ?_
     exact Zam rfl ⟨rfl, rfl, rfl, trivial⟩ (by
     first
     | (refine (decide_eq_false fun h => ?_).symm; have := of_decide_eq_false hg4_4; omega)
     | (refine decide_eq_decide.2 ?_; have := of_decide_eq_true hg4_4; omega))
   refine Zd ?_
   refine Zw rfl (fun hb4 => ?_) (fun hb4 => ?_)
   ·
    have h4 := of_decide_eq_true hb4
    obtain ⟨s, hs⟩ : ∃ s, a[i]? = some s := ⟨_, List.getElem?_eq_getElem (by omega)⟩
    obtain ⟨t, ht⟩ : ∃ t, b[i]? = some t := ⟨_, List.getElem?_eq_getElem (by omega)⟩
    have hcs := strsC_cut hs
    have hct := strsC_cut ht
    refine Zv (Zd (Ze (Zq (Ze ?_))))
    refine Zbb Tryd.mixed rfl [] trivial ?_
    refine Zak 0 rfl (by kernel_rfl) (Za (Zc (Za (Za (Zc (Za (Zn))))))) (Zae rfl rfl) rfl (Zak 1 rfl (by kernel_rfl) (Za (Zc (Za (Za (Zc (Za (Zn))))))) (Zae rfl rfl) rfl ?_)
    refine Zak 2 rfl (by kernel_rfl) (Za (Zc (Za (Za (Zc (Za (Zn))))))) (Zs rfl Tryd.s22 rfl rfl (hA.mono hle4) rfl (by omega)) rfl ?_
    refine Zak 3 rfl (by kernel_rfl) (Za (Zc (Za (Za (Zc (Za (Zn))))))) (Zr rfl Tryd.k9 rfl (hA.mono hle4) (by omega) hcs (vs := [_]) rfl rfl rfl rfl) rfl ?_
    refine Zak 4 rfl (by kernel_rfl) (Za (Zc (Za (Za (Zc (Za (Zn))))))) (Zae rfl rfl) rfl (Zak 5 rfl (by kernel_rfl) (Za (Zc (Za (Za (Zc (Za (Zn))))))) (Zae rfl rfl) rfl ?_)
    refine Zak 6 rfl (by kernel_rfl) (Za (Zc (Za (Za (Zc (Za (Zn))))))) (Zs rfl Tryd.s22 rfl rfl (hB.mono hle4) rfl (by omega)) rfl ?_
    refine Zak 7 rfl (by kernel_rfl) (Za (Zc (Za (Za (Zc (Za (Zn))))))) (Zr rfl Tryd.k9 rfl (hB.mono hle4) (by omega) hct (vs := [_]) rfl rfl rfl rfl) rfl ?_
    refine Zak 8 rfl (by kernel_rfl) (Za (Zc (Za (Za (Zc (Za (Zn))))))) (Zbp rfl rfl rfl) rfl ?_
    refine Zbn (by kernel_rfl) (ρ' := [(0, _), (1, _), (5, _), (31, _)]) ⟨rfl, rfl, rfl, rfl, trivial⟩ ?_
    refine Zd ?_
    refine Zw rfl (fun hb6 => ?_) (fun hb6 => ?_)
    ·
     have h6 := of_decide_eq_true hb6
     refine Ze (Zb (ya rfl rfl (Zf (ρ' := [(4, _)]) ⟨rfl, trivial⟩ ?_)))
     refine Zd (Zaj (Zaa (Zm (Zm (Zaa (Zm (Zbf (.tmp rfl) ?_)))))))
     rw [decide_eq_false (fun e => h6 (by rw [e, ht] at hs; exact (Option.some.inj hs).symm))]
    ·
     have h6 : s = t := Decidable.of_not_not (of_decide_eq_false hb6)
     refine Zv (Zah (Zd (Zb (ym rfl rfl (Zg (Zap rfl rfl rfl (Zk (by omega))) rfl ?_)))))
     refine ya rfl rfl (Zf (ρ' := [(0, _), (1, _), (5, _)]) ⟨rfl, rfl, rfl, trivial⟩ ?_)
     refine Zab ?_
     refine ⟨m - 1, [(0, _), (1, _), (5, _)], [], by omega, ⟨rfl, rfl, rfl, trivial⟩, trivial, i + 1, by omega, hle4, (by first | rfl | simp), (by first | rfl | (simp only [List.cons.injEq, Prod.mk.injEq, SV.v.injEq, Value.int.injEq, true_and, and_true]; omega) | simp), ?_⟩
     intro k hk
     by_cases e : k = i
     ·
      rw [e, hs, ht, h6]
     ·
      exact hsame k (by omega)
   ·
    have h4 := of_decide_eq_false hb4
    refine Zan ?_
    refine Zh (Zh ?_)
    refine Zu ?_
    refine Zd (Ze (Zb (ya rfl rfl (Zf (ρ' := [(4, _)]) ⟨rfl, trivial⟩ ?_))))
    refine Zd (Zaj (Zbf (.tmp rfl) ?_))
    rw [decide_eq_true]
    apply List.ext_getElem?
    intro k
    by_cases hk : k < i
    ·
     exact hsame k hk
    ·
     rw [List.getElem?_eq_none (by omega), List.getElem?_eq_none (by omega)]
set_option maxHeartbeats 2000000 in
theorem light_fn (a : List Bs) (hok : StrOk a) (va : Value) (u : View) (ha : StrS u va a) :
  FnP Tryd.prog 25 [va] u fun r _ => ∃ b, r = .bool b := by
 obtain ⟨aA, cA, rfl, hA⟩ := ha
 have hl := hok.1
 refine FnP.intro [.tmp 2] Tryd.func25 rfl rfl rfl ?_
 intro w0 D hw0
 refine Ze (Zb (ya rfl rfl (Zf (ρ' := [(0, _)]) ⟨rfl, trivial⟩ ?_)))
 refine Zd (Ze (Zb (ya rfl rfl (Zf (ρ' := [(0, _), (3, _)]) ⟨rfl, rfl, trivial⟩ ?_))))
 refine Zd (Ze (Ze (Zb (ya rfl rfl (Zf (ρ' := [(0, _), (3, _), (4, _)]) ⟨rfl, rfl, rfl, trivial⟩ ?_)))))
 refine Zd (Zq ?_)
 refine Zaq (fun m_0 ρ σ u' => ∃ i : Nat, i + m_0 = a.length ∧ VLe u u' ∧ ∃ (q : Nat), σ = [] ∧ ρ = [(0, .v (.slice aA a.length cA)), (3, .v (.int .i64 (q : Nat))), (4, .v (.int .i64 i))] ∧ (q ≤ 2400)) (a.length) ?_ ?_
 ·
  refine ⟨[(0, _), (3, _), (4, _)], [], ⟨rfl, rfl, rfl, trivial⟩, trivial, 0, by omega, VLe.refl _, 0, (by first | rfl | simp), (by first | rfl | (simp only [List.cons.injEq, Prod.mk.injEq, SV.v.injEq, Value.int.injEq, true_and, and_true]; omega) | simp), ?_⟩
  omega
 ·
  rintro m ρ σ u' ⟨i, hi3, hle3, q, rfl, rfl, hq⟩
  refine Ze (Ze ?_)
  refine Zbd 12 (decide (i < a.length ∧ q < 2000)) (ρk := [(0, _), (3, _), (4, _)]) ⟨rfl, rfl, rfl, trivial⟩ ?_ ?_
  ·
   refine Zb (ym rfl rfl (ym rfl rfl (Zg (Zx rfl rfl Tryd.s22 rfl) rfl (Zg (Zav rfl rfl rfl) rfl (ym rfl rfl ?_)))))
   refine Zar 9 rfl (fun hg3_4 => ?_) (fun hg3_4 => ?_)
   ·
    refine Zp rfl rfl (ym rfl rfl (Zp rfl rfl (Zg (Zav rfl rfl rfl) rfl (Zg (Zo rfl rfl rfl) rfl ?_))))
    exact Zam rfl ⟨rfl, rfl, rfl, trivial⟩ (by
    first
    | (refine decide_eq_decide.2 ?_; have := of_decide_eq_true hg3_4; omega)
    | (refine (decide_eq_false fun h => ?_).symm; have := of_decide_eq_false hg3_4; omega))
   ·
    refine Zaf rfl rfl rfl rfl (Zaf rfl rfl rfl rfl (Zg (Zad rfl rfl rfl) rfl ?_))
    exact Zam rfl ⟨rfl, rfl, rfl, trivial⟩ (by
    first
    | (refine decide_eq_decide.2 ?_; have := of_decide_eq_true hg3_4; omega)
    | (refine (decide_eq_false fun h => ?_).symm; have := of_decide_eq_false hg3_4; omega))
  refine Zd ?_
  refine Zw rfl (fun hb3 => ?_) (fun hb3 => ?_)
  ·
   have h3 := of_decide_eq_true hb3
   obtain ⟨s, hs⟩ : ∃ s, a[i]? = some s := ⟨_, List.getElem?_eq_getElem (by omega)⟩
   have hcs := strsC_cut hs
   refine Zv (Zd (Ze (Zq (Ze (Ze (Zb (ym rfl rfl ?_)))))))
   refine ym rfl rfl (Zg (Zs rfl Tryd.s22 rfl rfl (hA.mono hle3) rfl (by omega)) rfl (Zg (Zr rfl Tryd.k9 rfl (hA.mono hle3) (by omega) hcs (vs := [_]) rfl rfl rfl rfl) rfl (Zg (Zat rfl rfl Tryd.str9 rfl) rfl (Zg (y_gtr rfl rfl rfl) rfl (Zf (ρ' := [(0, _), (3, _), (4, _), (20, _)]) ⟨rfl, rfl, rfl, rfl, trivial⟩ ?_)))))
   refine Zd ?_
   refine Zw rfl (fun hb5 => ?_) (fun hb5 => ?_)
   ·
    skip
    refine Ze (Zb (ya rfl rfl (Zf (ρ' := [(2, _)]) ⟨rfl, trivial⟩ ?_)))
    refine Zd (Zaj (Zm (Zaa (Zm (Zm (Zaa (Zm ?_)))))))
    refine Zbf (.tmp rfl) ?_
    exact ⟨_, rfl⟩
   ·
    have h5 := of_decide_eq_false hb5
    refine Zv (Zd (Zb (ym rfl rfl (ym rfl rfl (ym rfl rfl (Zg (Zs rfl Tryd.s22 rfl rfl (hA.mono hle3) rfl (by omega)) rfl (Zg (Zr rfl Tryd.k9 rfl (hA.mono hle3) (by omega) hcs (vs := [_]) rfl rfl rfl rfl) rfl ?_)))))))
    refine Zg (Zat rfl rfl Tryd.str9 rfl) rfl (Zg (Zap rfl rfl rfl (Zk (by omega))) rfl ?_)
    refine ya rfl rfl (Zf (ρ' := [(0, _), (3, _), (4, _)]) ⟨rfl, rfl, rfl, trivial⟩ ?_)
    refine Zah (Zd (Zb (ym rfl rfl (Zg (Zap rfl rfl rfl (Zk (by omega))) rfl ?_))))
    refine ya rfl rfl (Zf (ρ' := [(0, _), (3, _), (4, _)]) ⟨rfl, rfl, rfl, trivial⟩ ?_)
    refine Zab ?_
    refine ⟨m - 1, [(0, _), (3, _), (4, _)], [], by omega, ⟨rfl, rfl, rfl, trivial⟩, trivial, i + 1, by omega, hle3, q + s.length, (by first | rfl | simp), (by first | rfl | (simp only [List.cons.injEq, Prod.mk.injEq, SV.v.injEq, Value.int.injEq, true_and, and_true]; omega) | simp), ?_⟩
    omega
  ·
   skip
   refine Zan ?_
   refine Zh (Zh ?_)
   refine Zu ?_
   refine Zd (Ze (Zb (ym rfl rfl (Zg (Zx rfl rfl Tryd.s22 rfl) rfl (Zg (y_leq rfl rfl rfl) rfl (ym rfl rfl ?_))))))
   refine Zar 31 rfl (fun hg8_3 => ?_) (fun hg8_3 => ?_)
   ·
    refine Zp rfl rfl (ym rfl rfl (Zp rfl rfl (Zg (Zav rfl rfl rfl) rfl (Zg (Zo rfl rfl rfl) rfl (ya rfl rfl (Zf (ρ' := [(2, _)]) ⟨rfl, trivial⟩ ?_))))))
    refine Zd (Zaj (Zbf (.tmp rfl) ?_))
    exact ⟨_, rfl⟩
   ·
    refine Zaf rfl rfl rfl rfl (Zaf rfl rfl rfl rfl (Zg (Zad rfl rfl rfl) rfl (ya rfl rfl (Zf (ρ' := [(2, _)]) ⟨rfl, trivial⟩ ?_))))
    refine Zd (Zaj (Zbf (.tmp rfl) ?_))
    exact ⟨_, rfl⟩
theorem few_fn (a b : List Bs) (hoa : StrOk a) (hob : StrOk b) (va vb : Value) (u : View) (ha : StrS u va a) (hb : StrS u vb b) :
  FnP Tryd.prog 10 [va, vb] u fun r _ => ∃ x, r = .bool x ∧ (x = true → a.length ≤ 30 ∧ b.length ≤ 30) := by
 have ha2 := ha
 have hb2 := hb
 obtain ⟨aA, cA, rfl, hA⟩ := ha2
 obtain ⟨aB, cB, rfl, hB⟩ := hb2
 refine FnP.intro [.tmp 4] Tryd.func10 rfl rfl rfl ?_
 intro w0 D hw0
 refine Ze (Zb (ya rfl rfl (Zf (ρ' := [(0, _), (1, _)]) ⟨rfl, rfl, trivial⟩ ?_)))
 refine Zd (Ze (Zb (ym rfl rfl (Zt rfl rfl ?_))))
 refine Zac (caps := []) trivial rfl rfl Tryd.c25 rfl (FnP.mono (light_fn a hoa _ u ha) ?_)
 rintro v u1 hle1 ⟨b1, rfl⟩
 refine ym rfl rfl ?_
 refine Zar 7 rfl (fun hg1_2 => ?_) (fun hg1_2 => ?_)
 ·
  refine Zp rfl rfl (ym rfl rfl (Zp rfl rfl (Zt rfl rfl ?_)))
  refine Zac (caps := []) trivial rfl rfl Tryd.c25 rfl (FnP.mono (light_fn b hob _ u hb) ?_)
  rintro v u1 hle1 ⟨b2, rfl⟩
  refine Zg (Zo rfl rfl rfl) rfl (ym rfl rfl ?_)
  refine Zar 11 rfl (fun hg1_6 => ?_) (fun hg1_6 => ?_)
  ·
   refine Zp rfl rfl (ym rfl rfl (Zp rfl rfl (Zg (Zx rfl rfl Tryd.s22 rfl) rfl (Zp rfl rfl (Zg (y_leq rfl rfl rfl) rfl (Zg (Zo rfl rfl rfl) rfl (ym rfl rfl ?_)))))))
   refine Zar 16 rfl (fun hg1_11 => ?_) (fun hg1_11 => ?_)
   ·
    refine Zp rfl rfl (ym rfl rfl (Zp rfl rfl (Zg (Zx rfl rfl Tryd.s22 rfl) rfl (Zp rfl rfl (Zg (y_leq rfl rfl rfl) rfl (Zg (Zo rfl rfl rfl) rfl (ya rfl rfl (Zf (ρ' := [(4, _)]) ⟨rfl, trivial⟩ ?_))))))))
    refine Zd (Zaj (Zbf (.tmp rfl) ?_))
    first
    | exact ⟨_, rfl, fun h => by cases h⟩
    | (refine ⟨_, rfl, fun h => ?_⟩
       have h1 := of_decide_eq_true hg1_11
       have h2 := of_decide_eq_true h
       omega)
   ·
    iterate 3 refine Zaf rfl rfl rfl rfl ?_
    refine Zg (Zad rfl rfl rfl) rfl (ya rfl rfl (Zf (ρ' := [(4, _)]) ⟨rfl, trivial⟩ ?_))
    refine Zd (Zaj (Zbf (.tmp rfl) ?_))
    first
    | exact ⟨_, rfl, fun h => by cases h⟩
    | (refine ⟨_, rfl, fun h => ?_⟩
       have h1 := of_decide_eq_true hg1_11
       have h2 := of_decide_eq_true h
       omega)
  ·
   iterate 3 refine Zaf rfl rfl rfl rfl ?_
   refine Zg (Zad rfl rfl rfl) rfl (ym rfl rfl ?_)
   iterate 3 refine Zaf rfl rfl rfl rfl ?_
   refine Zg (Zad rfl rfl rfl) rfl (ya rfl rfl (Zf (ρ' := [(4, _)]) ⟨rfl, trivial⟩ ?_))
   refine Zd (Zaj (Zbf (.tmp rfl) ?_))
   first
   | exact ⟨_, rfl, fun h => by cases h⟩
   | (refine ⟨_, rfl, fun h => ?_⟩
      have h1 := of_decide_eq_true hg1_11
      have h2 := of_decide_eq_true h
      omega)
 ·
  refine Zaf rfl rfl rfl rfl (Zaf rfl rfl rfl rfl (Zg (Zad rfl rfl rfl) rfl (ym rfl rfl ?_)))
  iterate 3 refine Zaf rfl rfl rfl rfl ?_
  refine Zg (Zad rfl rfl rfl) rfl (ym rfl rfl ?_)
  iterate 3 refine Zaf rfl rfl rfl rfl ?_
  refine Zg (Zad rfl rfl rfl) rfl (ya rfl rfl (Zf (ρ' := [(4, _)]) ⟨rfl, trivial⟩ ?_))
  refine Zd (Zaj (Zbf (.tmp rfl) ?_))
  first
  | exact ⟨_, rfl, fun h => by cases h⟩
  | (refine ⟨_, rfl, fun h => ?_⟩
     have h1 := of_decide_eq_true hg1_11
     have h2 := of_decide_eq_true h
     omega)
def BoS (u : View) (v : Value) (ms : List Bool) : Prop := IsSl u v ms.length 1 (ms.map Value.bool)
theorem BoS.mono {u u' : View} {v : Value} {ms : List Bool} (h : BoS u v ms) (hu : VLe u u') : BoS u' v ms := IsSl.mono h hu
theorem pickL_take : ∀ {l : List Bs} {ms : List Bool} {i : Nat} {s : Bs} {b : Bool}, l[i]? = some s → ms[i]? = some b → pickL (l.take (i + 1)) (ms.take (i + 1)) = pickL (l.take i) (ms.take i) ++ if b = true then [s] else []
 | [], _, i, s, b, h, _ => by simp at h
 | x :: l, [], i, s, b, _, h => by simp at h
 | x :: l, y :: ms, 0, s, b, h, h2 => by
  simp at h h2
  subst h; subst h2
  simp [pickL]
 | x :: l, y :: ms, i + 1, s, b, h, h2 => by
  have ih := pickL_take (l := l) (ms := ms) (i := i) (s := s) (b := b) (by simpa using h) (by simpa using h2)
  rw [List.take_succ_cons, List.take_succ_cons, List.take_succ_cons, List.take_succ_cons, pickL, pickL, ih, List.append_assoc]
theorem pickL_len : ∀ (l : List Bs) (ms : List Bool), (pickL l ms).length ≤ l.length
 | [], _ => by simp [pickL]
 | x :: l, [] => by simp [pickL]
 | x :: l, y :: ms => by
  have := pickL_len l ms
  rw [pickL, List.length_append, List.length_cons]
  split <;> simp <;> omega
theorem pickL_all : ∀ (l : List Bs) (ms : List Bool) (n : Nat), min l.length ms.length ≤ n → pickL (l.take n) (ms.take n) = pickL l ms
 | [], _, n, _ => by simp [pickL]
 | x :: l, [], n, _ => by
  cases n <;> simp [pickL]
 | x :: l, y :: ms, 0, h => by simp at h
 | x :: l, y :: ms, n + 1, h => by
  rw [List.take_succ_cons, List.take_succ_cons, pickL, pickL, pickL_all l ms n (by simp at h ⊢; omega)]
set_option maxHeartbeats 2000000 in
theorem pick_fn (a : List Bs) (ms : List Bool) (hl : a.length ≤ 100000) (hm : ms.length ≤ 100000) (va vb : Value) (u : View) (ha : StrS u va a) (hb : BoS u vb ms) :
  FnP Tryd.prog 26 [va, vb] u fun r u' => StrS u' r (pickL a ms) := by
 obtain ⟨aA, cA, rfl, hA⟩ := ha
 obtain ⟨aB, cB, rfl, hB⟩ := hb
 refine FnP.intro [.tmp 4] Tryd.func26 rfl rfl rfl ?_
 intro w0 D hw0
 refine Ze (Zb (ya rfl rfl (Zf (ρ' := [(0, _), (1, _)]) ⟨rfl, rfl, trivial⟩ ?_)))
 refine Zd (Ze (Zb (ya rfl rfl ?_)))
 refine Zbv 5 505 9 1 rfl rfl rfl ?_
 refine Zf (ρ' := [(0, _), (1, _), (5, _)]) ⟨rfl, rfl, rfl, trivial⟩ ?_
 refine Zd (Ze (Ze (Zb (ya rfl rfl (Zf (ρ' := [(0, _), (1, _), (5, _), (6, _)]) ⟨rfl, rfl, rfl, rfl, trivial⟩ ?_)))))
 refine Zd (Zq ?_)
 refine Zaq (fun m_0 ρ σ u' => ∃ i : Nat, i + m_0 = (min a.length ms.length) ∧ VLe u u' ∧ σ = [(505, (none, .row 9 1 (pickL (a.take i) (ms.take i)).length (strsC (pickL (a.take i) (ms.take i)))))] ∧ ρ = [(0, .v (.slice aA a.length cA)), (1, .v (.slice aB ms.length cB)), (5, .s 505), (6, .v (.int .i64 i))] ∧ (True)) ((min a.length ms.length)) ?_ ?_
 ·
  refine ⟨[(0, _), (1, _), (5, _), (6, _)], [(505, _)], ⟨rfl, rfl, rfl, rfl, trivial⟩, ⟨rfl, trivial⟩, 0, by omega, VLe.refl _, (by first | rfl | simp), (by first | rfl | (simp only [List.cons.injEq, Prod.mk.injEq, SV.v.injEq, Value.int.injEq, true_and, and_true]; omega) | simp), ?_⟩
  trivial
 ·
  rintro m ρ σ u' ⟨i, hi3, hle3, rfl, rfl, hinv3⟩
  refine Ze (Ze ?_)
  refine Zbd 16 (decide (i < a.length ∧ i < ms.length)) (ρk := [(0, _), (1, _), (5, _), (6, _)]) ⟨rfl, rfl, rfl, rfl, trivial⟩ ?_ ?_
  ·
   refine Zb (ym rfl rfl (ym rfl rfl (Zg (Zx rfl rfl Tryd.s22 rfl) rfl (Zg (Zav rfl rfl rfl) rfl (ym rfl rfl ?_)))))
   refine Zar 11 rfl (fun hg3_4 => ?_) (fun hg3_4 => ?_)
   ·
    refine Zp rfl rfl (ym rfl rfl (Zp rfl rfl (ym rfl rfl (Zp rfl rfl (Zg (Zx rfl rfl Tryd.s52 rfl) rfl (Zp rfl rfl (Zg (Zav rfl rfl rfl) rfl ?_)))))))
    refine Zg (Zo rfl rfl rfl) rfl ?_
    exact Zam rfl ⟨rfl, rfl, rfl, rfl, trivial⟩ (by
    first
    | (refine (decide_eq_false fun h => ?_).symm; have := of_decide_eq_false hg3_4; omega)
    | (refine decide_eq_decide.2 ?_; have := of_decide_eq_true hg3_4; omega))
   ·
    iterate 4 refine Zaf rfl rfl rfl rfl ?_
    refine Zg (Zad rfl rfl rfl) rfl ?_
    exact Zam rfl ⟨rfl, rfl, rfl, rfl, trivial⟩ (by
    first
    | (refine (decide_eq_false fun h => ?_).symm; have := of_decide_eq_false hg3_4; omega)
    | (refine decide_eq_decide.2 ?_; have := of_decide_eq_true hg3_4; omega))
  refine Zd ?_
  refine Zw rfl (fun hb3 => ?_) (fun hb3 => ?_)
  ·
   have h3 := of_decide_eq_true hb3
   obtain ⟨s, hs⟩ : ∃ s, a[i]? = some s := ⟨_, List.getElem?_eq_getElem (by omega)⟩
   obtain ⟨b, hbb⟩ : ∃ b, ms[i]? = some b := ⟨_, List.getElem?_eq_getElem (by omega)⟩
   have hcs := strsC_cut hs
   have hcb : cut (ms.map Value.bool) (i * 1) 1 = [.bool b] := cut_one (by simp [hbb])
   have hT := pickL_take hs hbb
   have hPl := pickL_len (a.take i) (ms.take i)
   rw [List.length_take, Nat.min_eq_left (by omega)] at hPl
   obtain ⟨L, hL⟩ : ∃ L, L = pickL (a.take i) (ms.take i) := ⟨_, rfl⟩
   rw [← hL] at hT hPl ⊢
   refine Zv (Zd (Ze (Zq (Ze (Zb (ym rfl rfl (ym rfl rfl ?_)))))))
   refine Zg (Zs rfl Tryd.s52 rfl rfl (hB.mono hle3) rfl (by omega)) rfl (Zg (Zr rfl Tryd.k4 rfl (hB.mono hle3) (by omega) hcb (vs := [_]) rfl rfl rfl rfl) rfl (Zf (ρ' := [(0, _), (1, _), (5, _), (6, _), (22, _)]) ⟨rfl, rfl, rfl, rfl, rfl, trivial⟩ ?_))
   refine Zd ?_
   refine Zw rfl (fun hb5 => ?_) (fun hb5 => ?_)
   ·
    rw [if_pos hb5] at hT
    refine Zb (ym rfl rfl (ym rfl rfl (ym rfl rfl (Zg (Zs rfl Tryd.s22 rfl rfl (hA.mono hle3) rfl (by omega)) rfl (Zg (Zr rfl Tryd.k9 rfl (hA.mono hle3) (by omega) hcs (vs := [_]) rfl rfl rfl rfl) rfl (Zt rfl rfl ?_))))))
    refine Zai trivial Tryd.s22 Tryd.z9 (ps := [(_, _)]) rfl (xs := [_]) rfl rfl rfl rfl rfl rfl rfl ?_
    refine Zt rfl rfl ?_
    refine Zay trivial rfl rfl Tryd.s22 Tryd.z9 rfl rfl rfl rfl rfl rfl (by first | rfl | assumption | simp [Value.oneCell', str]) (by omega) (by omega) (ρ' := [(0, _), (1, _), (6, _)]) ⟨rfl, rfl, rfl, trivial⟩ rfl rfl rfl ?_
    refine ya rfl rfl ?_
    refine Zbu 29 505 rfl rfl rfl ?_
    refine Zf (ρ' := [(0, _), (1, _), (5, _), (6, _)]) ⟨rfl, rfl, rfl, rfl, trivial⟩ ?_
    refine Zah (Zd (Zb (ym rfl rfl (Zg (Zap rfl rfl rfl (Zk (by omega))) rfl ?_))))
    refine ya rfl rfl (Zf (ρ' := [(0, _), (1, _), (5, _), (6, _)]) ⟨rfl, rfl, rfl, rfl, trivial⟩ ?_)
    refine Zab ?_
    refine ⟨m - 1, [(0, _), (1, _), (5, _), (6, _)], [(505, _)], by omega, ⟨rfl, rfl, rfl, rfl, trivial⟩, ⟨rfl, trivial⟩, i + 1, by omega, hle3, (by first | (rw [hT, strsC_snoc, List.length_append]; rfl) | (rw [hT])), (by first | rfl | simp), ?_⟩
    trivial
   ·
    rw [if_neg (by rw [hb5]; decide), List.append_nil] at hT
    refine Zv (Zah (Zd (Zb (ym rfl rfl (Zg (Zap rfl rfl rfl (Zk (by omega))) rfl ?_)))))
    refine ya rfl rfl (Zf (ρ' := [(0, _), (1, _), (5, _), (6, _)]) ⟨rfl, rfl, rfl, rfl, trivial⟩ ?_)
    refine Zab ?_
    refine ⟨m - 1, [(0, _), (1, _), (5, _), (6, _)], [(505, _)], by omega, ⟨rfl, rfl, rfl, rfl, trivial⟩, ⟨rfl, trivial⟩, i + 1, by omega, hle3, (by first | (rw [hT, strsC_snoc, List.length_append]; rfl) | (rw [hT])), (by first | rfl | simp), ?_⟩
    trivial
  ·
   have h3 := of_decide_eq_false hb3
   rw [pickL_all a ms i (by omega)]
   refine Zan ?_
   refine Zh (Zh ?_)
   refine Zu ?_
   refine Zd (Ze (Zb (ym rfl rfl ?_)))
   refine Zaz 505 rfl ?_
   intro ad505 cap505 uF hleF hF
   refine ya rfl rfl (Zf (ρ' := [(4, _)]) ⟨rfl, trivial⟩ ?_)
   refine Zd (Zaj (Zbf (.tmp rfl) ?_))
   exact ⟨_, _, rfl, hF⟩
end Go.Proofs.Ytekkhlepbacapaa
namespace Go.Eng
open Go Go.RowKit
open Go.ChangeShapes Go.WideShapes
set_option linter.unusedSimpArgs false
set_option linter.unusedVariables false
theorem laidMet_tail {P : Program} {x : String × DataW Unit} {r : List (String × DataW Unit)} {W : World} (h : laidMet P (x :: r) W) : laidMet P r W := by
 obtain ⟨ps, ⟨g, t, cs, fuel, p, q, _, _, _, _, hq, rfl⟩, hnd, hc⟩ := h
 exact ⟨q, hq, (List.nodup_append.1 hnd).2.1, fun b off hm => hc b off (List.mem_append_right _ hm)⟩
theorem wok_of {H : Type} {P : Program} {ts : List TypeId} {ds : List (DataW H)} (h : (DataW.weightsEach P ts ds).all (· ≤ reachBytes) = true) (i : Nat) {t : TypeId} {d : DataW H} (ht : ts[i]? = some t) (hd : ds[i]? = some d) : WOk P t d := by
 intro n hn
 have := List.all_eq_true.1 h n (weightsEach_mem ht hd hn)
 have h2 := of_decide_eq_true this
 unfold reachBytes at h2
 omega
def litCell : DataW Unit → Value
 | .lit (.int k n) => .int k n
 | _ => undef
def datCells : DataW Unit → Array Value
 | .agg l => (l.flatMap fun d => match d with
  | .agg m => m.map litCell
  | x => [litCell x]).toArray
 | _ => #[]
section
variable {H : Type} {enc : TypeId × Value → H} {P : Program} {w : World} {base b0 : Nat} {spare : Nat → Bool} {held : Bool} {r : Reach}
theorem open_docV (T : DocTys P) {t : TypeId} {v : Value} {d : DataW H} {ps : List MemPlace} (ht : FldsAre P t [(0, T.pairs), (1, T.blks)]) (hc : P.cellsOf t = 2) (hw : WOk P t d) (hval : Value.okWide P w r b0 t v) (hd : DataW.Trod enc P w base spare held t v d ps) :
  ∃ (d : DDoc) (vm vb : Value), v = .agg #[vm, vb] ∧ PrS (wview w) vm d.mts ∧ BlkS (wview w) vb d.blocks ∧ DocOk d := by
 obtain ⟨fs, hu, _⟩ := id ht
 unfold Value.okWide at hval
 rw [hu] at hval
 obtain ⟨cs, rfl, hsz, _⟩ := hval
 obtain ⟨fuel, hf⟩ := hd
 obtain ⟨d, vm, vb, h1, h2⟩ := open_doc T ht hc hw hf
 refine ⟨d, vm, vb, ?_, h2⟩
 have h3 : cs.toList = [vm, vb] := h1
 have : cs = #[vm, vb] := by
  cases cs
  simpa using h3
 rw [this]
theorem slice_cells {t e : TypeId} {v : Value} (ht : P.underlying t = some (.slice e)) (hval : Value.okWide P w r b0 t v) : v.cells.toList = [v] := by
 obtain ⟨ad, n, c, rfl⟩ := okWide_slice ht hval
 rfl
theorem open_strsV {t e : TypeId} (ht : P.underlying t = some (.slice e)) (he : P.underlying e = some .string) (hc : P.cellsOf e = 1) (hby : 0 < P.bytesOf e) {v : Value} {d : DataW H} {ps : List MemPlace} (hw : WOk P t d) (hval : Value.okWide P w r b0 t v) (hd : DataW.Trod enc P w base spare held t v d ps) :
  ∃ xs : List Bs, StrS (wview w) v xs ∧ StrOk xs := by
 obtain ⟨fuel, h⟩ := hd
 rw [slice_cells ht hval] at h
 exact open_strs ht he hc hby hw h
theorem open_inlsV (T : DocTys P) {v : Value} {d : DataW H} {ps : List MemPlace} (hw : WOk P T.inls d) (hval : Value.okWide P w r b0 T.inls v) (hd : DataW.Trod enc P w base spare held T.inls v d ps) :
  ∃ xs : List Inl, InlS (wview w) v xs ∧ xs.length ≤ 140737488351232 := by
 obtain ⟨fuel, h⟩ := hd
 rw [slice_cells T.hinls hval] at h
 exact open_inls T _ _ _ hw h
end
end Go.Eng
namespace Go.Proofs.Ytekkhlepbacapaa
open Go Go.Eng Go.RowKit
open Go.ChangeShapes Go.WideShapes
set_option linter.unusedSimpArgs false
set_option linter.unusedVariables false
section
variable {H : Type} {enc : TypeId × Value → H} {P : Program} {w : World} {base b0 : Nat} {spare : Nat → Bool} {held : Bool} {r : Reach}
theorem open_bools {t e : TypeId} (ht : P.underlying t = some (.slice e)) (he : P.underlying e = some .bool) (hc : P.cellsOf e = 1) (hby : 0 < P.bytesOf e) {v : Value} {d : DataW H} {ps : List MemPlace} (hw : WOk P t d) (hval : Value.okWide P w r b0 t v) (hd : DataW.Trod enc P w base spare held t v d ps) :
  ∃ ms : List Bool, BoS (wview w) v ms ∧ ms.length ≤ 140737488351232 := by
 obtain ⟨fuel, h⟩ := hd
 rw [slice_cells ht hval] at h
 obtain ⟨n, cs, hsl, hn, hel⟩ := open_sl ht hc (by omega) hby hw h
 have hlen : cs.length = n * 1 := by obtain ⟨_, _, _, h1, _⟩ := hsl; exact h1
 obtain ⟨xs, h1, h2, -⟩ := chop (fun b : Bool => [Value.bool b]) (fun _ => True) 1 n cs hlen (fun i hi => by
  obtain ⟨m, y, _, h3, hy⟩ := hel i hi
  rw [show (1 : Nat) = P.cellsOf e from hc.symm] at h3
  obtain ⟨b, h4, _⟩ := DataW.trod_bool he h3
  rw [hc] at h4
  exact ⟨b, h4, trivial⟩)
 refine ⟨xs, ?_, by omega⟩
 unfold BoS
 rw [h1]
 have e1 : xs.map Value.bool = cs := by rw [h2]; exact List.map_eq_flatMap
 rw [e1]
 exact hsl
theorem open_chgs {t e ty : TypeId} (ht : P.underlying t = some (.slice e)) (hf : FldsAre P e [(0, ty), (1, ty), (2, ty)]) (hi : P.underlying ty = some (.int .i64)) (hci : P.cellsOf ty = 1) (hc : P.cellsOf e = 3) (hby : 0 < P.bytesOf e) {v : Value} {d : DataW H} {ps : List MemPlace} (hw : WOk P t d) (hval : Value.okWide P w r b0 t v) (hd : DataW.Trod enc P w base spare held t v d ps) :
  ∃ l : List Chg, ChS (wview w) v l ∧ l.length ≤ 140737488351232 := by
 obtain ⟨fuel, h⟩ := hd
 rw [slice_cells ht hval] at h
 obtain ⟨n, cs, hsl, hn, hel⟩ := open_sl ht hc (by omega) hby hw h
 have hlen : cs.length = n * 3 := by obtain ⟨_, _, _, h1, _⟩ := hsl; exact h1
 obtain ⟨xs, h1, h2, -⟩ := chop chgC (fun _ => True) 3 n cs hlen (fun i hi' => by
  obtain ⟨m, y, _, h3, hy⟩ := hel i hi'
  obtain ⟨hl, hff⟩ := open_flds hf hy h3
  rw [hc] at hl
  obtain ⟨_, _, _, a0, _⟩ := hff 0 0 ty rfl
  obtain ⟨_, _, _, a1, _⟩ := hff 1 1 ty rfl
  obtain ⟨_, _, _, a2, _⟩ := hff 2 2 ty rfl
  rw [hci] at a0 a1 a2
  obtain ⟨z0, b0, _⟩ := DataW.trod_int hi a0
  obtain ⟨z1, b1, _⟩ := DataW.trod_int hi a1
  obtain ⟨z2, b2, _⟩ := DataW.trod_int hi a2
  refine ⟨⟨z0, z1, z2⟩, ?_, trivial⟩
  generalize cut cs (i * 3) 3 = c at *
  match c, hl with
  | [u0, u1, u2], _ =>
   unfold cut at b0 b1 b2
   simp at b0 b1 b2
   rw [b0, b1, b2]; rfl)
 refine ⟨xs, ?_, by omega⟩
 unfold ChS chgsC
 rw [h1, ← h2]
 exact hsl
end
theorem chgFl : FldsAre Tryd.prog 51 [(0, 3), (1, 3), (2, 3)] := ⟨Tryd.prog.fieldsOf 51, by kernel_rfl, by kernel_rfl⟩
theorem tabU_of {W : World} (h : Lib.TabIs Tryd.prog W "internal/strconv.uint64pow10" .u64 Lib.pow10Tab) : TabU (wview W) := by
 unfold Lib.TabIs World.var? at h
 rw [gTab] at h
 unfold TabU wview
 cases hg : W.heap[3]? with
 | none => simp [hg] at h
 | some o =>
  cases o with
  | cells c T fr =>
   simp [hg] at h
   exact ⟨T, fr, by rw [h]⟩
  | _ => simp [hg] at h
set_option linter.unusedSimpArgs false
set_option linter.unusedVariables false
set_option maxRecDepth 4000
def SamV (u : View) (v : Value) (same : Nat → Nat → Bool) (n m : Nat) : Prop := ∃ ad cap rows, v = .slice ad n cap ∧ SlC u ad n cap 1 rows ∧ ∀ i, i < n → ∃ x, rows[i]? = some x ∧ IsSl u x m 1 (cF m fun k => .bool (same i k))
theorem SamV.mono {u u' : View} {v : Value} {same : Nat → Nat → Bool} {n m : Nat} (h : SamV u v same n m) (hu : VLe u u') : SamV u' v same n m :=
 let ⟨ad, cap, rows, h1, h2, h3⟩ := h; ⟨ad, cap, rows, h1, h2.mono hu, fun i hi => let ⟨x, h4, h5⟩ := h3 i hi; ⟨x, h4, h5.mono hu⟩⟩
def rowL (same : Nat → Nat → Bool) (n m i : Nat) : List Value := cF (m + 1) fun k => .int .i64 ((best same n m i k : Nat) : Int)
def BstV (u : View) (v : Value) (same : Nat → Nat → Bool) (n m : Nat) : Prop := ∃ ad cap rows, v = .slice ad (n + 1) cap ∧ SlC u ad (n + 1) cap 1 rows ∧ ∀ i, i ≤ n → ∃ x, rows[i]? = some x ∧ IsSl u x (m + 1) 1 (rowL same n m i)
theorem BstV.mono {u u' : View} {v : Value} {same : Nat → Nat → Bool} {n m : Nat} (h : BstV u v same n m) (hu : VLe u u') : BstV u' v same n m :=
 let ⟨ad, cap, rows, h1, h2, h3⟩ := h; ⟨ad, cap, rows, h1, h2.mono hu, fun i hi => let ⟨x, h4, h5⟩ := h3 i hi; ⟨x, h4, h5.mono hu⟩⟩
abbrev rowS (m : Nat) (A : Nat → Option Addr) (k : Nat) : Value := .slice (A k) (m + 1) (m + 1)
def stk (m : Nat) (A : Nat → Option Addr) (z : List Value) : Nat → List FRow
 | 0 => []
 | i + 1 => ⟨rowS m A i, m + 1, z⟩ :: stk m A z i
theorem stk_ext {m : Nat} {A B : Nat → Option Addr} {z : List Value} : ∀ {i : Nat}, (∀ k, k < i → A k = B k) → stk m A z i = stk m B z i
 | 0, _ => rfl
 | i + 1, h => by
  rw [stk, stk, stk_ext (i := i) fun k hk => h k (by omega)]
  simp only [rowS, h i (by omega)]
def upA (A : Nat → Option Addr) (i : Nat) (ad : Option Addr) : Nat → Option Addr := fun k => if k = i then ad else A k
theorem upA_at (A : Nat → Option Addr) (i : Nat) (ad : Option Addr) : upA A i ad i = ad := if_pos rfl
theorem upA_ne {A : Nat → Option Addr} {i k : Nat} {ad : Option Addr} (h : k ≠ i) : upA A i ad k = A k := if_neg h
def rowsR (m : Nat) (A : Nat → Option Addr) (i : Nat) : Nat → Value := fun k => if k < i then rowS m A k else .slice none 0 0
theorem rowsR_up {n m : Nat} {A : Nat → Option Addr} {i : Nat} {ad : Option Addr} : cF (n + 1) (fun k => if k = i then .slice ad (m + 1) (m + 1) else rowsR m A i k) = cF (n + 1) (rowsR m (upA A i ad) (i + 1)) := by
 refine cF_ext fun k hk => ?_
 unfold rowsR rowS
 by_cases e : k = i
 ·
  subst e; simp [upA]
 ·
  rw [if_neg e]
  by_cases e2 : k < i
  ·
   rw [if_pos e2, if_pos (by omega), upA_ne e]
  ·
   rw [if_neg e2, if_neg (by omega)]
theorem stk_up {m : Nat} {A : Nat → Option Addr} {z : List Value} {i : Nat} {ad : Option Addr} : (⟨.slice ad (m + 1) (m + 1), m + 1, z⟩ : FRow) :: stk m A z i = stk m (upA A i ad) z (i + 1) := by
 rw [stk, stk_ext (A := A) (B := upA A i ad) fun k hk => (upA_ne (by omega)).symm]
 simp only [rowS, upA_at]
theorem rowsR0 {n m : Nat} : cF (n + 1) (fun _ => Value.slice none 0 0) = cF (n + 1) (rowsR m (fun _ => none) 0) := cF_ext fun k hk => rfl
theorem rowsR_all {n m : Nat} {A : Nat → Option Addr} : cF (n + 1) (rowsR m A (n + 1)) = cF (n + 1) (rowS m A) := cF_ext fun k hk => if_pos hk
section
variable {same : Nat → Nat → Bool} {n m I J : Nat}
def rowB (same : Nat → Nat → Bool) (n m I J : Nat) : Nat → Value := fun k => .int .i64 (if J ≤ k then ((best same n m I k : Nat) : Int) else 0)
theorem rowB_at {k : Nat} (h : J ≤ k) (hk : k ≤ m) : cut (cF (m + 1) (rowB same n m I J)) (k * 1) 1 = [.int .i64 ((best same n m I k : Nat) : Int)] := by
 rw [cF_cut (by omega)]
 simp [rowB, h]
theorem rowB_put {v : Nat} (h : v = best same n m I J) : cF (m + 1) (fun k => if k = J then Value.int .i64 ((v : Nat) : Int) else rowB same n m I (J + 1) k) = cF (m + 1) (rowB same n m I J) := by
 refine cF_ext fun k hk => ?_
 by_cases e : k = J
 ·
  subst e; subst h; simp [rowB]
 ·
  simp only [rowB, if_neg e]
  by_cases e2 : J + 1 ≤ k
  ·
   rw [if_pos e2, if_pos (by omega)]
  ·
   rw [if_neg e2, if_neg (by omega)]
theorem rowB_start : cF (m + 1) (fun _ => Value.int .i64 0) = cF (m + 1) (rowB same n m I (m - 0)) := by
 refine cF_ext fun k hk => ?_
 unfold rowB
 by_cases e : m - 0 ≤ k
 ·
  rw [if_pos e, show k = m by omega, best_end (.inr (Nat.le_refl _))]; rfl
 ·
  rw [if_neg e]
theorem rowB_full : cF (m + 1) (rowB same n m I 0) = rowL same n m I := by
 refine cF_ext fun k hk => ?_
 simp [rowB]
theorem rowL_n : cF (m + 1) (fun _ => Value.int .i64 0) = rowL same n m n := by
 refine cF_ext fun k hk => ?_
 rw [best_end (.inl (Nat.le_refl _))]; rfl
theorem rowL_at {k : Nat} (hk : k ≤ m) : cut (rowL same n m I) (k * 1) 1 = [.int .i64 ((best same n m I k : Nat) : Int)] := cF_cut (by omega)
end
theorem slC_of {u : View} {ad : Option Addr} {n cap sz : Nat} {cs : List Value} (h : IsSl u (.slice ad n cap) n sz cs) : SlC u ad n cap sz cs := by
 obtain ⟨a, c, e, h1⟩ := h
 cases e
 exact h1
set_option maxHeartbeats 8000000 in
theorem lengths_fn (same : Nat → Nat → Bool) (n m : Nat) (hn : n ≤ 31) (hm : m ≤ 31) (v : Value) (u : View) (hv : SamV u v same n m) :
  FnP Tryd.prog 40 [v, .int .i64 (n : Nat), .int .i64 (m : Nat)] u fun r u' => BstV u' r same n m := by
 obtain ⟨aS, cS, rS, rfl, hS, hSr⟩ := hv
 refine FnP.intro [.tmp 6] Tryd.func40 rfl rfl rfl ?_
 intro w0 D hw0
 refine Ze (Zb (ya rfl rfl (Zf (ρ' := [(0, _), (1, _), (2, _)]) ⟨rfl, rfl, rfl, trivial⟩ ?_)))
 refine Zd (Ze (Zb (ym rfl rfl (Zg (Zap rfl rfl rfl (Zk (by omega))) rfl ?_))))
 refine Zt rfl rfl ?_
 refine Zbr (n + 1) trivial Tryd.s74 Tryd.z58 rfl rfl (by first | rfl | omega) (by first | rfl | omega) (by omega) (by omega) rfl rfl rfl ?_
 intro ad14
 rw [rep_cF, rowsR0 (m := m)]
 refine ya rfl rfl (Zf (ρ' := [(0, _), (1, _), (2, _), (7, _)]) ⟨rfl, rfl, rfl, rfl, trivial⟩ ?_)
 refine Zd (Ze (Ze (Zb (ya rfl rfl ?_))))
 refine rl_famNil 901 3 1 rfl rfl ?_
 refine Zf (ρ' := [(0, _), (1, _), (2, _), (7, _), (8, _)]) ⟨rfl, rfl, rfl, rfl, rfl, trivial⟩ ?_
 refine Zd (Zq ?_)
 refine Zaq (fun m_0 ρ σ u' => ∃ i3 : Nat, i3 + m_0 = (n + 1) ∧ VLe u u' ∧ ∃ (A : Nat → Option Addr), σ = [(14, (none, .rwv (.slice ad14 (n + 1) (n + 1)) 58 1 (n + 1) (cF (n + 1) (rowsR m A i3)))), (901, (none, fam 3 1 (stk m A (cF (m + 1) fun _ => Value.int .i64 0) i3)))] ∧ ρ = [(0, .v (.slice aS n cS)), (1, .v (.int .i64 n)), (2, .v (.int .i64 m)), (7, .v (.slice ad14 (n + 1) (n + 1))), (8, .v (.int .i64 i3))] ∧ (True)) ((n + 1)) ?_ ?_
 ·
  refine ⟨[(0, _), (1, _), (2, _), (7, _), (8, _)], [(14, _), (901, _)], ⟨rfl, rfl, rfl, rfl, rfl, trivial⟩, ⟨rfl, rfl, trivial⟩, 0, by omega, VLe.refl _, fun _ => none, (by first | rfl | simp), (by first | rfl | (simp only [List.cons.injEq, Prod.mk.injEq, SV.v.injEq, Value.int.injEq, true_and, and_true]; omega) | simp), ?_⟩
  trivial
 ·
  rintro mi3 ρ σ u' ⟨i3, hi3, hle3, A, rfl, rfl, hinv3⟩
  refine Ze (Ze (Zb (ym rfl rfl (ym rfl rfl (Zg (y_leq rfl rfl rfl) rfl (Zf (ρ' := [(0, _), (1, _), (2, _), (7, _), (8, _), (17, _)]) ⟨rfl, rfl, rfl, rfl, rfl, rfl, trivial⟩ ?_))))))
  refine Zd ?_
  refine Zw rfl (fun hb3 => ?_) (fun hb3 => ?_)
  ·
   have h3 := of_decide_eq_true hb3
   refine Zv (Zd (Ze (Zq (Zb (ym rfl rfl (ym rfl rfl (ym rfl rfl (Zg (Zap rfl rfl rfl (Zk (by omega))) rfl ?_))))))))
   refine Zt rfl rfl ?_
   refine Zbr (m + 1) trivial Tryd.s58 Tryd.z3 rfl rfl (by first | rfl | omega) (by first | rfl | omega) (by omega) (by omega) rfl rfl rfl ?_
   intro ad24
   rw [rep_cF]
   refine Zg (Zas 14 rfl Tryd.s74 rfl rfl rfl (j := i3) (by first | rfl | omega) (by omega)) rfl (Zt rfl rfl ?_)
   refine Zbe trivial rfl Tryd.k58 rfl rfl rfl (vs := [_]) rfl rfl (by first | rfl | assumption | simp [Value.oneCell', str]) (by first | omega | (rw [cF_len]; omega) | simp) (by first | exact cF_set (by omega) | rfl) ?_
   refine rl_famIn 901 24 [] _ rfl rfl rfl ?_
   refine Zf (ρ' := [(0, _), (1, _), (2, _), (7, _), (8, _)]) ⟨rfl, rfl, rfl, rfl, rfl, trivial⟩ ?_
   refine Zah (Zd (Zb (ym rfl rfl (Zg (Zap rfl rfl rfl (Zk (by omega))) rfl ?_))))
   refine ya rfl rfl (Zf (ρ' := [(0, _), (1, _), (2, _), (7, _), (8, _)]) ⟨rfl, rfl, rfl, rfl, rfl, trivial⟩ ?_)
   refine Zab ?_
   refine ⟨mi3 - 1, [(0, _), (1, _), (2, _), (7, _), (8, _)], [(14, _), (901, _)], by omega, ⟨rfl, rfl, rfl, rfl, rfl, trivial⟩, ⟨rfl, rfl, trivial⟩, i3 + 1, by omega, hle3, upA A i3 ad24, (by rw [rowsR_up]; simp only [List.nil_append]; rw [stk_up]), (by first | rfl | simp), ?_⟩
   trivial
  ·
   have h3 := of_decide_eq_false hb3
   obtain rfl : i3 = n + 1 := by omega
   rw [rowsR_all]
   refine wc_famStep 901 [] (stk m A (cF (m + 1) fun _ => Value.int .i64 0) n) ⟨rowS m A n, m + 1, cF (m + 1) fun _ => Value.int .i64 0⟩ rfl ?_
   intro u6 hle6 hs6
   have hA6 : ∀ k, n - 0 ≤ k → k ≤ n → SlC u6 (A k) (m + 1) (m + 1) 1 (rowL same n m k) := fun k h1 h2 => by
    rw [rowL_n (same := same) (n := n)] at hs6
    rw [show k = n by omega]
    exact slC_of hs6
   refine Zan ?_
   refine Zh (Zh ?_)
   refine Zu ?_
   refine Zd (Ze (Ze (Zb (ym rfl rfl (Zg (y_sub rfl rfl rfl (Zk (by omega))) rfl ?_)))))
   refine ya rfl rfl (Zf (ρ' := [(0, _), (2, _), (7, _), (9, _)]) ⟨rfl, rfl, rfl, rfl, trivial⟩ ?_)
   refine Zd (Zq ?_)
   refine Zaq (fun m_0 ρ σ u' => ∃ i7 : Nat, i7 + m_0 = n ∧ VLe u6 u' ∧ σ = [(14, (none, .rwv (.slice ad14 (n + 1) (n + 1)) 58 1 (n + 1) (cF (n + 1) (rowS m A)))), (901, (none, fam 3 1 (stk m A (cF (m + 1) fun _ => Value.int .i64 0) (n - i7))))] ∧ ρ = [(0, .v (.slice aS n cS)), (2, .v (.int .i64 m)), (7, .v (.slice ad14 (n + 1) (n + 1))), (9, .v (.int .i64 ((n : Int) - 1 - i7)))] ∧ (∀ k, n - i7 ≤ k → k ≤ n → SlC u' (A k) (m + 1) (m + 1) 1 (rowL same n m k))) (n) ?_ ?_
   ·
    refine ⟨[(0, _), (2, _), (7, _), (9, _)], [(14, _), (901, _)], ⟨rfl, rfl, rfl, rfl, trivial⟩, ⟨rfl, rfl, trivial⟩, 0, by omega, VLe.refl _, (by first | rfl | simp), (by first | rfl | (simp only [List.cons.injEq, Prod.mk.injEq, SV.v.injEq, Value.int.injEq, true_and, and_true]; omega) | simp), ?_⟩
    exact hA6
   ·
    rintro mi7 ρ σ u' ⟨i7, hi7, hle7, rfl, rfl, hAk⟩
    refine Ze (Ze (Zb (ym rfl rfl (Zg (y_geq rfl rfl rfl) rfl (Zf (ρ' := [(0, _), (2, _), (7, _), (9, _), (29, _)]) ⟨rfl, rfl, rfl, rfl, rfl, trivial⟩ ?_)))))
    refine Zd ?_
    refine Zw rfl (fun hb7 => ?_) (fun hb7 => ?_)
    ·
     have h7 := of_decide_eq_true hb7
     obtain ⟨I, hI⟩ : ∃ I : Nat, I + 1 + i7 = n := ⟨n - 1 - i7, by omega⟩
     have hI2 : n - i7 = I + 1 := by omega
     obtain ⟨uO, huO⟩ : ∃ x, x = u' := ⟨_, rfl⟩
     subst huO
     have hI3 : n - (i7 + 1) = I := by omega
     rw [show (n : Int) - 1 - i7 = (I : Int) by omega, hI2]
     have hN1 := hAk (I + 1) (by omega) (by omega)
     obtain ⟨xS, hxS, ⟨aX, cX, rfl, hX⟩⟩ := hSr I (by omega)
     refine wc_famOut 901 902 [] (stk m A (cF (m + 1) fun _ => Value.int .i64 0) I) ⟨rowS m A I, m + 1, cF (m + 1) fun _ => Value.int .i64 0⟩ rfl rfl rfl rfl ?_
     simp only [List.nil_append]
     refine Zv (Zd (Ze (Zq (Ze (Zb (ym rfl rfl (Zg (y_sub rfl rfl rfl (Zk (by omega))) rfl ?_)))))))
     refine ya rfl rfl (Zf (ρ' := [(0, _), (2, _), (7, _), (9, _), (10, _)]) ⟨rfl, rfl, rfl, rfl, rfl, trivial⟩ ?_)
     refine Zd (Zq ?_)
     refine Zaq (fun m_0 ρ σ u' => ∃ c : Nat, c + m_0 = m ∧ VLe uO u' ∧ σ = [(14, (none, .rwv (.slice ad14 (n + 1) (n + 1)) 58 1 (n + 1) (cF (n + 1) (rowS m A)))), (901, (none, fam 3 1 (stk m A (cF (m + 1) fun _ => Value.int .i64 0) I))), (902, (none, .rwv (rowS m A I) 3 1 (m + 1) (cF (m + 1) (rowB same n m I (m - c)))))] ∧ ρ = [(0, .v (.slice aS n cS)), (2, .v (.int .i64 m)), (7, .v (.slice ad14 (n + 1) (n + 1))), (9, .v (.int .i64 (I : Nat))), (10, .v (.int .i64 ((m : Int) - 1 - c)))] ∧ (True)) (m) ?_ ?_
     ·
      refine ⟨[(0, _), (2, _), (7, _), (9, _), (10, _)], [(14, _), (901, _), (902, _)], ⟨rfl, rfl, rfl, rfl, rfl, trivial⟩, ⟨rfl, rfl, rfl, trivial⟩, 0, by omega, VLe.refl _, (by rw [← rowB_start]), (by first | rfl | (simp only [List.cons.injEq, Prod.mk.injEq, SV.v.injEq, Value.int.injEq, true_and, and_true]; omega)), ?_⟩
      trivial
     ·
      rintro mc ρ σ u' ⟨c, hi10, hle10, rfl, rfl, hinv10⟩
      refine Ze (Ze (Zb (ym rfl rfl (Zg (y_geq rfl rfl rfl) rfl (Zf (ρ' := [(0, _), (2, _), (7, _), (9, _), (10, _), (35, _)]) ⟨rfl, rfl, rfl, rfl, rfl, rfl, trivial⟩ ?_)))))
      refine Zd ?_
      refine Zw rfl (fun hb10 => ?_) (fun hb10 => ?_)
      ·
       have h10 := of_decide_eq_true hb10
       obtain ⟨J, hJ⟩ : ∃ J : Nat, J + 1 + c = m := ⟨m - 1 - c, by omega⟩
       rw [show (m : Int) - 1 - c = (J : Int) by omega, show m - c = J + 1 by omega]
       have hJ2 : m - (c + 1) = J := by omega
       have hb1 := best_leM same n m _ (I + 1) J (Nat.le_refl _)
       have hb2 := best_leM same n m _ (I + 1) (J + 1) (Nat.le_refl _)
       have hb3' := best_leM same n m _ I (J + 1) (Nat.le_refl _)
       have hst := best_step (same := same) (n := n) (m := m) (i := I) (k := J) (by omega) (by omega)
       have hN := hN1.mono hle10
       have hc1 := rowL_at (same := same) (n := n) (m := m) (I := I + 1) (k := J) (by omega)
       have hc2 := rowL_at (same := same) (n := n) (m := m) (I := I + 1) (k := J + 1) (by omega)
       have hmo := hle6.trans (hle7.trans hle10)
       have hSu := hS.mono ((hle3.trans hle6).trans (hle7.trans hle10))
       have hXu := hX.mono ((hle3.trans hle6).trans (hle7.trans hle10))
       have hcS : cut rS (I * 1) 1 = [.slice aX m cX] := cut_one hxS
       have hcX : cut (cF m fun k => Value.bool (same I k)) (J * 1) 1 = [.bool (same I J)] := cF_cut (by omega)
       refine Zv (Zd (Ze (Zq (Ze (Zb (ym rfl rfl (ym rfl rfl (Zg (Zap rfl rfl rfl (Zk (by omega))) rfl ?_))))))))
       refine Zg (Zas 14 rfl Tryd.s74 rfl rfl rfl (j := I + 1) (by first | rfl | omega) (by omega)) rfl (Zg (Zbk rfl Tryd.k58 rfl rfl rfl (by first | assumption | exact cF_cut (by omega) | rfl) rfl rfl (by first | omega | (rw [cF_len]; omega) | simp)) rfl ?_)
       refine ym rfl rfl (Zg (Zs rfl Tryd.s58 rfl rfl hN (j := J) rfl (by omega)) rfl (Zg (Zr rfl Tryd.k3 rfl hN (by omega) hc1 (vs := [_]) rfl rfl rfl rfl) rfl (ya rfl rfl (Zf (ρ' := [(0, _), (2, _), (7, _), (9, _), (10, _), (11, _)]) ⟨rfl, rfl, rfl, rfl, rfl, rfl, trivial⟩ ?_))))
       refine Zd ?_
       refine wc_cut (fun ρ σ uc15 => VLe u' uc15 ∧ σ = [(14, (none, .rwv (.slice ad14 (n + 1) (n + 1)) 58 1 (n + 1) (cF (n + 1) (rowS m A)))), (901, (none, fam 3 1 (stk m A (cF (m + 1) fun _ => Value.int .i64 0) I))), (902, (none, .rwv (rowS m A I) 3 1 (m + 1) (cF (m + 1) (rowB same n m I (J + 1)))))] ∧ ρ = [(0, .v (.slice aS n cS)), (2, .v (.int .i64 m)), (7, .v (.slice ad14 (n + 1) (n + 1))), (9, .v (.int .i64 (I : Nat))), (10, .v (.int .i64 (J : Nat))), (11, .v (.int .i64 ((max (best same n m (I + 1) J) (best same n m I (J + 1)) : Nat) : Int)))] ∧ (True)) ?_ ?_
       ·
        refine Ze (Zb (ym rfl rfl (ym rfl rfl (Zg (Zas 14 rfl Tryd.s74 rfl rfl rfl (j := I) (by first | rfl | omega) (by omega)) rfl (Zg (Zbk rfl Tryd.k58 rfl rfl rfl (by first | assumption | exact cF_cut (by omega) | rfl) rfl rfl (by first | omega | (rw [cF_len]; omega) | simp)) rfl ?_)))))
        refine ym rfl rfl (Zg (Zap rfl rfl rfl (Zk (by omega))) rfl ?_)
        refine Zg (Zas 902 rfl Tryd.s58 rfl rfl rfl (j := J + 1) (by first | rfl | omega) (by omega)) rfl (Zg (Zbk rfl Tryd.k3 rfl rfl rfl (rowB_at (Nat.le_refl _) (by omega)) rfl rfl (by rw [cF_len]; omega)) rfl ?_)
        refine ym rfl rfl (Zg (y_gtr rfl rfl rfl) rfl (Zf (ρ' := [(0, _), (2, _), (7, _), (9, _), (10, _), (11, _), (55, _)]) ⟨rfl, rfl, rfl, rfl, rfl, rfl, rfl, trivial⟩ ?_))
        refine Zd ?_
        refine Zw rfl (fun hb13 => ?_) (fun hb13 => ?_)
        ·
         have h13 := of_decide_eq_true hb13
         refine Zb (ym rfl rfl (ym rfl rfl (Zg (Zas 14 rfl Tryd.s74 rfl rfl rfl (j := I) (by first | rfl | omega) (by omega)) rfl (Zg (Zbk rfl Tryd.k58 rfl rfl rfl (by first | assumption | exact cF_cut (by omega) | rfl) rfl rfl (by first | omega | (rw [cF_len]; omega) | simp)) rfl ?_))))
         refine ym rfl rfl (Zg (Zap rfl rfl rfl (Zk (by omega))) rfl ?_)
         refine Zg (Zas 902 rfl Tryd.s58 rfl rfl rfl (j := J + 1) (by first | rfl | omega) (by omega)) rfl (Zg (Zbk rfl Tryd.k3 rfl rfl rfl (rowB_at (Nat.le_refl _) (by omega)) rfl rfl (by rw [cF_len]; omega)) rfl ?_)
         refine ya rfl rfl (Zf (ρ' := [(0, _), (2, _), (7, _), (9, _), (10, _), (11, _)]) ⟨rfl, rfl, rfl, rfl, rfl, rfl, trivial⟩ ?_)
         refine Zab ?_
         refine ⟨[(0, _), (2, _), (7, _), (9, _), (10, _), (11, _)], [(14, _), (901, _), (902, _)], ⟨rfl, rfl, rfl, rfl, rfl, rfl, trivial⟩, ⟨rfl, rfl, rfl, trivial⟩, (VLe.refl _), (by first | rfl | simp), (by first | rfl | (simp only [List.cons.injEq, Prod.mk.injEq, SV.v.injEq, Value.int.injEq, true_and, and_true]; omega) | simp), ?_⟩
         trivial
        ·
         have h13 := of_decide_eq_false hb13
         refine Zv (Zab ?_)
         refine ⟨[(0, _), (2, _), (7, _), (9, _), (10, _), (11, _)], [(14, _), (901, _), (902, _)], ⟨rfl, rfl, rfl, rfl, rfl, rfl, trivial⟩, ⟨rfl, rfl, rfl, trivial⟩, (VLe.refl _), (by first | rfl | simp), (by first | rfl | (simp only [List.cons.injEq, Prod.mk.injEq, SV.v.injEq, Value.int.injEq, true_and, and_true]; omega) | simp), ?_⟩
         trivial
       ·
        rintro ρ σ uc15 ⟨hlc15, rfl, rfl, hc15⟩
        refine wc_cut (fun ρ σ uc17 => VLe uc15 uc17 ∧ σ = [(14, (none, .rwv (.slice ad14 (n + 1) (n + 1)) 58 1 (n + 1) (cF (n + 1) (rowS m A)))), (901, (none, fam 3 1 (stk m A (cF (m + 1) fun _ => Value.int .i64 0) I))), (902, (none, .rwv (rowS m A I) 3 1 (m + 1) (cF (m + 1) (rowB same n m I (J + 1)))))] ∧ ρ = [(0, .v (.slice aS n cS)), (2, .v (.int .i64 m)), (7, .v (.slice ad14 (n + 1) (n + 1))), (9, .v (.int .i64 (I : Nat))), (10, .v (.int .i64 (J : Nat))), (11, .v (.int .i64 ((best same n m I J : Nat) : Int)))] ∧ (True)) ?_ ?_
        ·
         refine Ze ?_
         refine Zbd 84 (decide (same I J = true ∧ max (best same n m (I + 1) J) (best same n m I (J + 1)) < best same n m (I + 1) (J + 1) + 1)) (ρk := [(0, _), (2, _), (7, _), (9, _), (10, _), (11, _)]) ⟨rfl, rfl, rfl, rfl, rfl, rfl, trivial⟩ ?_ ?_
         ·
          refine Zb (ym rfl rfl (ym rfl rfl (Zg (Zs rfl Tryd.s62 rfl rfl (hSu.mono hlc15) (j := I) rfl (by omega)) rfl (Zg (Zr rfl Tryd.k52 rfl (hSu.mono hlc15) (by omega) hcS (vs := [_]) rfl rfl rfl rfl) rfl (ym rfl rfl (Zg (Zs rfl Tryd.s52 rfl rfl (hXu.mono hlc15) (j := J) rfl (by omega)) rfl (Zg (Zr rfl Tryd.k4 rfl (hXu.mono hlc15) (by omega) hcX (vs := [_]) rfl rfl rfl rfl) rfl ?_)))))))
          refine ym rfl rfl ?_
          refine Zar 71 rfl (fun hg15_7 => ?_) (fun hg15_7 => ?_)
          ·
           refine Zp rfl rfl (ym rfl rfl (Zp rfl rfl (ym rfl rfl (Zp rfl rfl (Zg (Zap rfl rfl rfl (Zk (by omega))) rfl ?_)))))
           refine Zp rfl rfl (Zg (Zas 14 rfl Tryd.s74 rfl rfl rfl (j := I + 1) (by first | rfl | omega) (by omega)) rfl (Zp rfl rfl (Zg (Zbk rfl Tryd.k58 rfl rfl rfl (by first | assumption | exact cF_cut (by omega) | rfl) rfl rfl (by first | omega | (rw [cF_len]; omega) | simp)) rfl ?_)))
           refine Zp rfl rfl (ym rfl rfl (Zp rfl rfl (Zg (Zap rfl rfl rfl (Zk (by omega))) rfl ?_)))
           refine Zp rfl rfl (Zg (Zs rfl Tryd.s58 rfl rfl (hN.mono hlc15) (j := J + 1) (by first | rfl | omega) (by omega)) rfl (Zp rfl rfl (Zg (Zr rfl Tryd.k3 rfl (hN.mono hlc15) (by omega) hc2 (vs := [_]) rfl rfl rfl rfl) rfl (Zp rfl rfl (Zg (Zap rfl rfl rfl (Zk (by omega))) rfl ?_)))))
           refine Zp rfl rfl (ym rfl rfl (Zp rfl rfl (Zg (y_gtr rfl rfl rfl) rfl (Zg (Zo rfl rfl rfl) rfl ?_))))
           exact Zam rfl ⟨rfl, rfl, rfl, rfl, rfl, rfl, trivial⟩ (by
           first
           | (refine (decide_eq_false fun h => ?_).symm; rw [hg15_7] at h; exact absurd h.1 (by decide))
           | exact decide_eq_decide.2 ⟨fun h => ⟨hg15_7, by omega⟩, fun h => by have := h.2; omega⟩)
          ·
           iterate 12 refine Zaf rfl rfl rfl rfl ?_
           refine Zg (Zad rfl rfl rfl) rfl ?_
           exact Zam rfl ⟨rfl, rfl, rfl, rfl, rfl, rfl, trivial⟩ (by
           first
           | (refine (decide_eq_false fun h => ?_).symm; rw [hg15_7] at h; exact absurd h.1 (by decide))
           | exact decide_eq_decide.2 ⟨fun h => ⟨hg15_7, by omega⟩, fun h => by have := h.2; omega⟩)
         refine Zd ?_
         refine Zw rfl (fun hb15 => ?_) (fun hb15 => ?_)
         ·
          have h15 := of_decide_eq_true hb15
          rw [if_pos h15.1] at hst
          have h15b := h15.2
          refine Zb (ym rfl rfl (ym rfl rfl (Zg (Zap rfl rfl rfl (Zk (by omega))) rfl ?_)))
          refine Zg (Zas 14 rfl Tryd.s74 rfl rfl rfl (j := I + 1) (by first | rfl | omega) (by omega)) rfl (Zg (Zbk rfl Tryd.k58 rfl rfl rfl (by first | assumption | exact cF_cut (by omega) | rfl) rfl rfl (by first | omega | (rw [cF_len]; omega) | simp)) rfl ?_)
          refine ym rfl rfl (Zg (Zap rfl rfl rfl (Zk (by omega))) rfl ?_)
          refine Zg (Zs rfl Tryd.s58 rfl rfl (hN.mono hlc15) (j := J + 1) (by first | rfl | omega) (by omega)) rfl (Zg (Zr rfl Tryd.k3 rfl (hN.mono hlc15) (by omega) hc2 (vs := [_]) rfl rfl rfl rfl) rfl (Zg (Zap rfl rfl rfl (Zk (by omega))) rfl ?_))
          refine ya rfl rfl (Zf (ρ' := [(0, _), (2, _), (7, _), (9, _), (10, _), (11, _)]) ⟨rfl, rfl, rfl, rfl, rfl, rfl, trivial⟩ ?_)
          refine Zab ?_
          refine ⟨[(0, _), (2, _), (7, _), (9, _), (10, _), (11, _)], [(14, _), (901, _), (902, _)], ⟨rfl, rfl, rfl, rfl, rfl, rfl, trivial⟩, ⟨rfl, rfl, rfl, trivial⟩, (VLe.refl _), (by first | rfl | simp), (by first | rfl | (simp only [List.cons.injEq, Prod.mk.injEq, SV.v.injEq, Value.int.injEq, true_and, and_true]; omega) | simp), ?_⟩
          trivial
         ·
          have h15 := of_decide_eq_false hb15
          have hst2 : best same n m I J = max (best same n m (I + 1) J) (best same n m I (J + 1)) := by
           by_cases e : same I J = true
           ·
            rw [if_pos e] at hst
            have h15c : ¬ max (best same n m (I + 1) J) (best same n m I (J + 1)) < best same n m (I + 1) (J + 1) + 1 := fun q => h15 ⟨e, q⟩
            omega
           ·
            rw [if_neg e] at hst
            omega
          refine Zv (Zab ?_)
          refine ⟨[(0, _), (2, _), (7, _), (9, _), (10, _), (11, _)], [(14, _), (901, _), (902, _)], ⟨rfl, rfl, rfl, rfl, rfl, rfl, trivial⟩, ⟨rfl, rfl, rfl, trivial⟩, (VLe.refl _), (by first | rfl | simp), (by first | rfl | (simp only [List.cons.injEq, Prod.mk.injEq, SV.v.injEq, Value.int.injEq, true_and, and_true]; omega) | simp), ?_⟩
          trivial
        ·
         rintro ρ σ uc17 ⟨hlc17, rfl, rfl, hc17⟩
         refine Zb (ym rfl rfl (ym rfl rfl (Zg (Zas 14 rfl Tryd.s74 rfl rfl rfl (j := I) (by first | rfl | omega) (by omega)) rfl (Zg (Zbk rfl Tryd.k58 rfl rfl rfl (by first | assumption | exact cF_cut (by omega) | rfl) rfl rfl (by first | omega | (rw [cF_len]; omega) | simp)) rfl ?_))))
         refine ym rfl rfl (ym rfl rfl (Zg (Zas 902 rfl Tryd.s58 rfl rfl rfl (j := J) (by first | rfl | omega) (by omega)) rfl (Zt rfl rfl ?_)))
         refine Zbe trivial rfl Tryd.k3 rfl rfl rfl (vs := [_]) rfl rfl (by first | rfl | assumption | simp [Value.oneCell', str]) (by first | omega | (rw [cF_len]; omega) | simp) (by first | exact cF_set (by omega) | rfl) ?_
         rw [rowB_put rfl]
         refine Zf (ρ' := [(0, _), (2, _), (7, _), (9, _), (10, _)]) ⟨rfl, rfl, rfl, rfl, rfl, trivial⟩ ?_
         refine Zah (Zd (Zb (ym rfl rfl (Zg (y_sub rfl rfl rfl (Zk (by omega))) rfl ?_))))
         refine ya rfl rfl (Zf (ρ' := [(0, _), (2, _), (7, _), (9, _), (10, _)]) ⟨rfl, rfl, rfl, rfl, rfl, trivial⟩ ?_)
         refine Zab ?_
         refine ⟨mc - 1, [(0, _), (2, _), (7, _), (9, _), (10, _)], [(14, _), (901, _), (902, _)], by omega, ⟨rfl, rfl, rfl, rfl, rfl, trivial⟩, ⟨rfl, rfl, rfl, trivial⟩, c + 1, by omega, (hle10.trans (hlc15.trans hlc17)), (by rw [hJ2]), (by first | rfl | (simp only [List.cons.injEq, Prod.mk.injEq, SV.v.injEq, Value.int.injEq, true_and, and_true]; omega)), ?_⟩
         trivial
      ·
       have h10 := of_decide_eq_false hb10
       obtain rfl : c = m := by omega
       rw [Nat.sub_self, rowB_full]
       refine Zan ?_
       refine Zh (Zh ?_)
       refine Zu ?_
       refine Zah (Zd (Zb ?_))
       refine Zbj 902 rfl ?_
       intro u8 hle8 hs8
       refine ym rfl rfl (Zg (y_sub rfl rfl rfl (Zk (by omega))) rfl ?_)
       refine ya rfl rfl (Zf (ρ' := [(0, _), (2, _), (7, _), (9, _)]) ⟨rfl, rfl, rfl, rfl, trivial⟩ ?_)
       refine Zab ?_
       refine ⟨mi7 - 1, [(0, _), (2, _), (7, _), (9, _)], [(14, _), (901, _)], by omega, ⟨rfl, rfl, rfl, rfl, trivial⟩, ⟨rfl, rfl, trivial⟩, i7 + 1, by omega, (hle7.trans (hle10.trans hle8)), (by rw [hI3]), (by first | rfl | (simp only [List.cons.injEq, Prod.mk.injEq, SV.v.injEq, Value.int.injEq, true_and, and_true]; omega)), ?_⟩
       intro k h1 h2
       by_cases e : k = I
       ·
        subst e
        exact slC_of hs8
       ·
        exact (hAk k (by omega) h2).mono (hle10.trans hle8)
    ·
     have h7 := of_decide_eq_false hb7
     refine Zan ?_
     refine Zh (Zh ?_)
     refine Zu ?_
     refine Zd (Ze (Zb (ym rfl rfl ?_)))
     refine Zbj 14 rfl ?_
     intro uF hleF hs14
     refine ya rfl rfl (Zf (ρ' := [(6, _)]) ⟨rfl, trivial⟩ ?_)
     refine Zd (Zaj (Zbf (.tmp rfl) ?_))
     exact ⟨_, _, _, rfl, slC_of hs14, fun k hk => ⟨_, cF_get (by omega), ⟨_, _, rfl, (hAk k (by omega) hk).mono hleF⟩⟩⟩
theorem refY_hit {same : Nat → Nat → Bool} {n m x want k : Nat} (hk : k < m) (h : same x k = true ∧ best same n m (x + 1) (k + 1) + 1 = want) : refY same n m x want k = some k := by
 rw [refY, dif_pos hk, if_pos h]
theorem refY_miss {same : Nat → Nat → Bool} {n m x want k : Nat} (hk : k < m) (h : ¬ (same x k = true ∧ best same n m (x + 1) (k + 1) + 1 = want)) : refY same n m x want k = refY same n m x want (k + 1) := by
 rw [refY, dif_pos hk, if_neg h]
theorem refY_end {same : Nat → Nat → Bool} {n m x want k : Nat} (hk : m ≤ k) : refY same n m x want k = none := by
 rw [refY, dif_neg (by omega)]
set_option maxHeartbeats 4000000 in
theorem next_fn (same : Nat → Nat → Bool) (n m I K : Nat) (hI : I ≤ n) (hK : K ≤ m) (hn : n ≤ 31) (hm : m ≤ 31) (vS vB : Value) (u : View) (hS : SamV u vS same n m) (hB : BstV u vB same n m) :
  FnP Tryd.prog 41 [vS, vB, .int .i64 (I : Nat), .int .i64 (K : Nat), .int .i64 (n : Nat), .int .i64 (m : Nat)] u fun r _ => ∃ a b : Int, r = .tuple #[.int .i64 a, .int .i64 b] ∧
   ((a = -1 ∧ b = -1 ∧ (nxt same n m (n - I) I K (best same n m I K) = none ∨ best same n m I K = 0)) ∨ ∃ x y : Nat, a = x ∧ b = y ∧ best same n m I K ≠ 0 ∧ nxt same n m (n - I) I K (best same n m I K) = some (x, y)) := by
 obtain ⟨aS, cS, rS, rfl, hS, hSr⟩ := hS
 obtain ⟨aB, cB, rB, rfl, hB, hBr⟩ := hB
 obtain ⟨xI, hxI, ⟨aI, cI, rfl, hRI⟩⟩ := hBr I hI
 have hcI : cut rB (I * 1) 1 = [.slice aI (m + 1) cI] := cut_one hxI
 have hcK := rowL_at (same := same) (n := n) (m := m) (I := I) (k := K) hK
 have hbl := best_leM same n m _ I K (Nat.le_refl _)
 refine FnP.intro [.tmp 12, .tmp 13] Tryd.func41 rfl rfl rfl ?_
 intro w0 D hw0
 refine Ze (Zb (ya rfl rfl (ya rfl rfl (Zf (ρ' := [(0, _), (1, _), (2, _), (3, _), (4, _), (5, _)]) ⟨rfl, rfl, rfl, rfl, rfl, rfl, trivial⟩ ?_))))
 refine Zd (Ze (Zb (ym rfl rfl (ym rfl rfl (Zg (Zs rfl Tryd.s74 rfl rfl hB (j := I) rfl (by omega)) rfl (Zg (Zr rfl Tryd.k58 rfl hB (by omega) hcI (vs := [_]) rfl rfl rfl rfl) rfl (ym rfl rfl ?_)))))))
 refine Zg (Zs rfl Tryd.s58 rfl rfl hRI (j := K) rfl (by omega)) rfl (Zg (Zr rfl Tryd.k3 rfl hRI (by omega) hcK (vs := [_]) rfl rfl rfl rfl) rfl (ya rfl rfl ?_))
 obtain ⟨want, hwant⟩ : ∃ w, w = best same n m I K := ⟨_, rfl⟩
 rw [← hwant] at hbl ⊢
 refine Zf (ρ' := [(0, _), (1, _), (2, _), (3, _), (4, _), (5, _), (14, _)]) ⟨rfl, rfl, rfl, rfl, rfl, rfl, rfl, trivial⟩ ?_
 refine Zd (Ze (Ze (Zb (ym rfl rfl (ya rfl rfl (Zf (ρ' := [(0, _), (1, _), (3, _), (4, _), (5, _), (14, _), (15, _)]) ⟨rfl, rfl, rfl, rfl, rfl, rfl, rfl, trivial⟩ ?_))))))
 refine Zd (Zq ?_)
 refine Zaq (fun m_0 ρ σ u' => ∃ x0 : Nat, x0 + m_0 = (n - I) ∧ VLe u u' ∧ σ = [] ∧ ρ = [(0, .v (.slice aS n cS)), (1, .v (.slice aB (n + 1) cB)), (3, .v (.int .i64 K)), (4, .v (.int .i64 n)), (5, .v (.int .i64 m)), (14, .v (.int .i64 (want : Nat))), (15, .v (.int .i64 ((I + x0 : Nat) : Int)))] ∧ (nxt same n m (n - I) I K want = nxt same n m (n - (I + x0)) (I + x0) K want)) ((n - I)) ?_ ?_
 ·
  refine ⟨[(0, _), (1, _), (3, _), (4, _), (5, _), (14, _), (15, _)], [], ⟨rfl, rfl, rfl, rfl, rfl, rfl, rfl, trivial⟩, trivial, 0, by omega, VLe.refl _, (by first | rfl | simp), (by first | rfl | (simp only [List.cons.injEq, Prod.mk.injEq, SV.v.injEq, Value.int.injEq, true_and, and_true]; omega) | simp), ?_⟩
  rfl
 ·
  rintro mx0 ρ σ u' ⟨x0, hi3, hle3, rfl, rfl, hnx⟩
  refine Ze (Ze ?_)
  refine Zbd 31 (decide (I + x0 < n ∧ 0 < want)) (ρk := [(0, _), (1, _), (3, _), (4, _), (5, _), (14, _), (15, _)]) ⟨rfl, rfl, rfl, rfl, rfl, rfl, rfl, trivial⟩ ?_ ?_
  ·
   refine Zb (ym rfl rfl (ym rfl rfl (Zg (Zav rfl rfl rfl) rfl (ym rfl rfl ?_))))
   refine Zar 28 rfl (fun hg3_3 => ?_) (fun hg3_3 => ?_)
   ·
    refine Zp rfl rfl (ym rfl rfl (Zp rfl rfl (Zg (y_gtr rfl rfl rfl) rfl (Zg (Zo rfl rfl rfl) rfl ?_))))
    exact Zam rfl ⟨rfl, rfl, rfl, rfl, rfl, rfl, rfl, trivial⟩ (by
    first
    | (refine (decide_eq_false fun h => ?_).symm; have := of_decide_eq_false hg3_3; omega)
    | (refine decide_eq_decide.2 ?_; have := of_decide_eq_true hg3_3; omega))
   ·
    refine Zaf rfl rfl rfl rfl (Zaf rfl rfl rfl rfl (Zg (Zad rfl rfl rfl) rfl ?_))
    exact Zam rfl ⟨rfl, rfl, rfl, rfl, rfl, rfl, rfl, trivial⟩ (by
    first
    | (refine (decide_eq_false fun h => ?_).symm; have := of_decide_eq_false hg3_3; omega)
    | (refine decide_eq_decide.2 ?_; have := of_decide_eq_true hg3_3; omega))
  refine Zd ?_
  refine Zw rfl (fun hb3 => ?_) (fun hb3 => ?_)
  ·
   have h3 := of_decide_eq_true hb3
   obtain ⟨uO, huO⟩ : ∃ x, x = u' := ⟨_, rfl⟩
   subst huO
   obtain ⟨X, hX⟩ : ∃ X, X = I + x0 := ⟨_, rfl⟩
   rw [← hX] at hnx h3 ⊢
   obtain ⟨c, hc⟩ : ∃ c, n - X = c + 1 := ⟨n - X - 1, by omega⟩
   obtain ⟨xS, hxS, ⟨aX, cX, rfl, hXs⟩⟩ := hSr X (by omega)
   obtain ⟨xB, hxB, ⟨aY, cY, rfl, hYs⟩⟩ := hBr (X + 1) (by omega)
   have hcS : cut rS (X * 1) 1 = [.slice aX m cX] := cut_one hxS
   have hcB : cut rB ((X + 1) * 1) 1 = [.slice aY (m + 1) cY] := cut_one hxB
   refine Zv (Zd (Ze (Zq (Ze (Zb (ym rfl rfl (ya rfl rfl (Zf (ρ' := [(0, _), (1, _), (3, _), (4, _), (5, _), (14, _), (15, _), (16, _)]) ⟨rfl, rfl, rfl, rfl, rfl, rfl, rfl, rfl, trivial⟩ ?_))))))))
   refine Zd (Zq ?_)
   refine Zaq (fun m_0 ρ σ u' => ∃ y0 : Nat, y0 + m_0 = (m - K) ∧ VLe uO u' ∧ σ = [] ∧ ρ = [(0, .v (.slice aS n cS)), (1, .v (.slice aB (n + 1) cB)), (3, .v (.int .i64 K)), (4, .v (.int .i64 n)), (5, .v (.int .i64 m)), (14, .v (.int .i64 (want : Nat))), (15, .v (.int .i64 (X : Nat))), (16, .v (.int .i64 ((K + y0 : Nat) : Int)))] ∧ (refY same n m X want K = refY same n m X want (K + y0))) ((m - K)) ?_ ?_
   ·
    refine ⟨[(0, _), (1, _), (3, _), (4, _), (5, _), (14, _), (15, _), (16, _)], [], ⟨rfl, rfl, rfl, rfl, rfl, rfl, rfl, rfl, trivial⟩, trivial, 0, by omega, VLe.refl _, (by first | rfl | simp), (by first | rfl | (simp only [List.cons.injEq, Prod.mk.injEq, SV.v.injEq, Value.int.injEq, true_and, and_true]; omega) | simp), ?_⟩
    rfl
   ·
    rintro my0 ρ σ u' ⟨y0, hi6, hle6, rfl, rfl, hry⟩
    refine Ze (Ze (Zb (ym rfl rfl (ym rfl rfl (Zg (Zav rfl rfl rfl) rfl (Zf (ρ' := [(0, _), (1, _), (3, _), (4, _), (5, _), (14, _), (15, _), (16, _), (37, _)]) ⟨rfl, rfl, rfl, rfl, rfl, rfl, rfl, rfl, rfl, trivial⟩ ?_))))))
    refine Zd ?_
    refine Zw rfl (fun hb6 => ?_) (fun hb6 => ?_)
    ·
     have h6 := of_decide_eq_true hb6
     obtain ⟨Y, hY⟩ : ∃ Y, Y = K + y0 := ⟨_, rfl⟩
     rw [← hY] at hry h6 ⊢
     have hcX : cut (cF m fun k => Value.bool (same X k)) (Y * 1) 1 = [.bool (same X Y)] := cF_cut (by omega)
     have hcY := rowL_at (same := same) (n := n) (m := m) (I := X + 1) (k := Y + 1) (by omega)
     have hb2 := best_leM same n m _ (X + 1) (Y + 1) (Nat.le_refl _)
     have hmo := hle3.trans hle6
     refine Zv (Zd (Ze (Zq (Ze ?_))))
     refine Zbd 60 (decide (same X Y = true ∧ best same n m (X + 1) (Y + 1) + 1 = want)) (ρk := [(0, _), (1, _), (3, _), (4, _), (5, _), (14, _), (15, _), (16, _)]) ⟨rfl, rfl, rfl, rfl, rfl, rfl, rfl, rfl, trivial⟩ ?_ ?_
     ·
      refine Zb (ym rfl rfl (ym rfl rfl (Zg (Zs rfl Tryd.s62 rfl rfl (hS.mono hmo) (j := X) rfl (by omega)) rfl (Zg (Zr rfl Tryd.k52 rfl (hS.mono hmo) (by omega) hcS (vs := [_]) rfl rfl rfl rfl) rfl (ym rfl rfl (Zg (Zs rfl Tryd.s52 rfl rfl (hXs.mono hmo) (j := Y) rfl (by omega)) rfl (Zg (Zr rfl Tryd.k4 rfl (hXs.mono hmo) (by omega) hcX (vs := [_]) rfl rfl rfl rfl) rfl ?_)))))))
      refine ym rfl rfl ?_
      refine Zar 47 rfl (fun hg8_7 => ?_) (fun hg8_7 => ?_)
      ·
       refine Zp rfl rfl (ym rfl rfl (Zp rfl rfl (ym rfl rfl (Zp rfl rfl (Zg (Zap rfl rfl rfl (Zk (by omega))) rfl ?_)))))
       refine Zp rfl rfl (Zg (Zs rfl Tryd.s74 rfl rfl (hB.mono hmo) (j := X + 1) (by first | rfl | omega) (by omega)) rfl (Zp rfl rfl (Zg (Zr rfl Tryd.k58 rfl (hB.mono hmo) (by omega) hcB (vs := [_]) rfl rfl rfl rfl) rfl (Zp rfl rfl (ym rfl rfl (Zp rfl rfl (Zg (Zap rfl rfl rfl (Zk (by omega))) rfl ?_)))))))
       refine Zp rfl rfl (Zg (Zs rfl Tryd.s58 rfl rfl (hYs.mono hmo) (j := Y + 1) (by first | rfl | omega) (by omega)) rfl (Zp rfl rfl (Zg (Zr rfl Tryd.k3 rfl (hYs.mono hmo) (by omega) hcY (vs := [_]) rfl rfl rfl rfl) rfl (Zp rfl rfl (Zg (Zap rfl rfl rfl (Zk (by omega))) rfl ?_)))))
       refine Zp rfl rfl (ym rfl rfl (Zp rfl rfl (Zg (Zbl rfl rfl rfl) rfl (Zg (Zo rfl rfl rfl) rfl ?_))))
       exact Zam rfl ⟨rfl, rfl, rfl, rfl, rfl, rfl, rfl, rfl, trivial⟩ (by
       first
       | (refine (decide_eq_false fun h => ?_).symm; rw [hg8_7] at h; exact absurd h.1 (by decide))
       | exact decide_eq_decide.2 ⟨fun h => ⟨hg8_7, by omega⟩, fun h => by have := h.2; omega⟩)
      ·
       iterate 12 refine Zaf rfl rfl rfl rfl ?_
       refine Zg (Zad rfl rfl rfl) rfl ?_
       exact Zam rfl ⟨rfl, rfl, rfl, rfl, rfl, rfl, rfl, rfl, trivial⟩ (by
       first
       | (refine (decide_eq_false fun h => ?_).symm; rw [hg8_7] at h; exact absurd h.1 (by decide))
       | exact decide_eq_decide.2 ⟨fun h => ⟨hg8_7, by omega⟩, fun h => by have := h.2; omega⟩)
     refine Zd ?_
     refine Zw rfl (fun hb8 => ?_) (fun hb8 => ?_)
     ·
      have h8 := of_decide_eq_true hb8
      refine Ze (Zb (ym rfl rfl (ym rfl rfl (ya rfl rfl (ya rfl rfl (Zf (ρ' := [(12, _), (13, _)]) ⟨rfl, rfl, trivial⟩ ?_))))))
      refine Zd (Zaj (Zaa (Zm (Zm (Zaa (Zaa (Zm ?_)))))))
      refine Zm (Zaa (Zm ?_))
      refine fin2 (.tmp rfl) (.tmp rfl) ?_
      refine ⟨_, _, rfl, .inr ⟨X, Y, rfl, rfl, by omega, ?_⟩⟩
      rw [hnx, hc, nxt, hry, refY_hit (by omega) h8]
     ·
      have h8 := of_decide_eq_false hb8
      refine Zv (Zah (Zd (Zb (ym rfl rfl (Zg (Zap rfl rfl rfl (Zk (by omega))) rfl ?_)))))
      refine ya rfl rfl (Zf (ρ' := [(0, _), (1, _), (3, _), (4, _), (5, _), (14, _), (15, _), (16, _)]) ⟨rfl, rfl, rfl, rfl, rfl, rfl, rfl, rfl, trivial⟩ ?_)
      refine Zab ?_
      refine ⟨my0 - 1, [(0, _), (1, _), (3, _), (4, _), (5, _), (14, _), (15, _), (16, _)], [], by omega, ⟨rfl, rfl, rfl, rfl, rfl, rfl, rfl, rfl, trivial⟩, trivial, y0 + 1, by omega, hle6, (by first | rfl | simp), (by first | rfl | (simp only [List.cons.injEq, Prod.mk.injEq, SV.v.injEq, Value.int.injEq, true_and, and_true]; omega) | simp), ?_⟩
      rw [hry, refY_miss (by omega) h8, hY]; rfl
    ·
     have h6 := of_decide_eq_false hb6
     refine Zan ?_
     refine Zh (Zh ?_)
     refine Zu ?_
     refine Zah (Zd (Zb (ym rfl rfl (Zg (Zap rfl rfl rfl (Zk (by omega))) rfl ?_))))
     refine ya rfl rfl (Zf (ρ' := [(0, _), (1, _), (3, _), (4, _), (5, _), (14, _), (15, _)]) ⟨rfl, rfl, rfl, rfl, rfl, rfl, rfl, trivial⟩ ?_)
     refine Zab ?_
     refine ⟨mx0 - 1, [(0, _), (1, _), (3, _), (4, _), (5, _), (14, _), (15, _)], [], by omega, ⟨rfl, rfl, rfl, rfl, rfl, rfl, rfl, trivial⟩, trivial, x0 + 1, by omega, (hle3.trans hle6), (by first | rfl | simp), (by first | rfl | (simp only [List.cons.injEq, Prod.mk.injEq, SV.v.injEq, Value.int.injEq, true_and, and_true]; omega) | simp), ?_⟩
     rw [hnx, hc, nxt, hry, refY_end (by omega)]; simp only; rw [hX, show n - (I + (x0 + 1)) = c by omega]; rfl
  ·
   have h3 := of_decide_eq_false hb3
   refine Zan ?_
   refine Zh (Zh ?_)
   refine Zu ?_
   refine Zd (Ze (Zb (ya rfl rfl (ya rfl rfl (Zf (ρ' := [(12, _), (13, _)]) ⟨rfl, rfl, trivial⟩ ?_)))))
   refine Zd (Zaj ?_)
   refine fin2 (.tmp rfl) (.tmp rfl) ?_
   refine ⟨_, _, rfl, .inl ⟨rfl, rfl, ?_⟩⟩
   by_cases h0 : want = 0
   ·
    exact .inr h0
   ·
    refine .inl ?_
    rw [hnx, show n - (I + x0) = 0 by omega]; rfl
set_option linter.unusedSimpArgs false
set_option linter.unusedVariables false
set_option maxRecDepth 4000
abbrev restS (same : Nat → Nat → Bool) (n m I K : Nat) : List Chg := stepsOf n m (rows same n m (n - I) I K (best same n m I K)) I I K
theorem restS_end (same : Nat → Nat → Bool) (n m : Nat) : restS same n m n m = [] := by
 unfold restS
 rw [Nat.sub_self]
 simp only [rows, stepsOf, goneL_nil (Nat.le_refl _), newL_nil (Nat.le_refl _), List.append_nil]
set_option maxHeartbeats 8000000 in
theorem steps_fn (same : Nat → Nat → Bool) (n m : Nat) (hn : n ≤ 31) (hm : m ≤ 31) (vS : Value) (u : View) (hS : SamV u vS same n m) :
  FnP Tryd.prog 31 [vS, .int .i64 (n : Nat), .int .i64 (m : Nat)] u fun r u' => ChS u' r (textSteps same n m) := by
 have hcnt := textSteps_counts same n m
 refine FnP.intro [.tmp 6] Tryd.func31 rfl rfl rfl ?_
 intro w0 D hw0
 refine Ze (Zb (ya rfl rfl (Zf (ρ' := [(0, _), (1, _), (2, _)]) ⟨rfl, rfl, rfl, trivial⟩ ?_)))
 refine Zd (Ze (Zb (ym rfl rfl (ym rfl rfl (ym rfl rfl (Zt rfl rfl ?_))))))
 refine Zba (caps := []) trivial rfl rfl Tryd.c40 rfl (FnP.mono (lengths_fn same n m hn hm _ u hS) ?_)
 rintro v uL hle0 hB hleL
 obtain ⟨vB, rfl⟩ : ∃ x, x = v := ⟨_, rfl⟩
 refine ya rfl rfl (Zf (ρ' := [(0, _), (1, _), (2, _), (7, _)]) ⟨rfl, rfl, rfl, rfl, trivial⟩ ?_)
 refine Zd (Ze (Zb (ya rfl rfl ?_)))
 refine Zbv 8 508 51 3 rfl rfl rfl ?_
 refine Zf (ρ' := [(0, _), (1, _), (2, _), (7, _), (8, _)]) ⟨rfl, rfl, rfl, rfl, rfl, trivial⟩ ?_
 refine Zd (Ze (Zb (ya rfl rfl (ya rfl rfl (Zf (ρ' := [(0, _), (1, _), (2, _), (7, _), (8, _), (9, _), (10, _)]) ⟨rfl, rfl, rfl, rfl, rfl, rfl, rfl, trivial⟩ ?_)))))
 refine Zd (Ze (Zq ?_))
 refine Zaq (fun m_0 ρ σ u' => ∃ z : Nat, z + m_0 = (n + m) ∧ VLe uL u' ∧ ∃ (L : List Chg) (I K : Nat), σ = [(508, (none, .row 51 3 L.length (chgsC L)))] ∧ ρ = [(0, .v vS), (1, .v (.int .i64 n)), (2, .v (.int .i64 m)), (7, .v vB), (8, .s 508), (9, .v (.int .i64 (I : Nat))), (10, .v (.int .i64 (K : Nat)))] ∧ (I ≤ n ∧ K ≤ m ∧ z ≤ I + K ∧ textSteps same n m = L ++ restS same n m I K)) ((n + m)) ?_ ?_
 ·
  refine ⟨[(0, _), (1, _), (2, _), (7, _), (8, _), (9, _), (10, _)], [(508, _)], ⟨rfl, rfl, rfl, rfl, rfl, rfl, rfl, trivial⟩, ⟨rfl, trivial⟩, 0, by omega, VLe.refl _, [], 0, 0, (by first | rfl | simp), (by first | rfl | (simp only [List.cons.injEq, Prod.mk.injEq, SV.v.injEq, Value.int.injEq, true_and, and_true]; omega) | simp), ?_⟩
  exact ⟨by omega, by omega, by omega, rfl⟩
 ·
  rintro mz ρ σ u' ⟨z, hi4, hle4, L, I, K, rfl, rfl, ⟨hI, hK, hik, hst⟩⟩
  refine Ze (Ze ?_)
  refine Zbd 25 (decide (I < n ∨ K < m)) (ρk := [(0, _), (1, _), (2, _), (7, _), (8, _), (9, _), (10, _)]) ⟨rfl, rfl, rfl, rfl, rfl, rfl, rfl, trivial⟩ ?_ ?_
  ·
   refine Zb (ym rfl rfl (ym rfl rfl (Zg (Zav rfl rfl rfl) rfl (ym rfl rfl ?_))))
   refine Zar 21 rfl (fun hg4_3 => ?_) (fun hg4_3 => ?_)
   ·
    iterate 3 refine Zaf rfl rfl rfl rfl ?_
    refine Zg (Zo rfl rfl rfl) rfl ?_
    exact Zam rfl ⟨rfl, rfl, rfl, rfl, rfl, rfl, rfl, trivial⟩ (by
    first
    | (refine (decide_eq_true ?_).symm; have := of_decide_eq_true hg4_3; omega)
    | (refine decide_eq_decide.2 ?_; have := of_decide_eq_false hg4_3; omega))
   ·
    refine Zp rfl rfl (ym rfl rfl (Zp rfl rfl (ym rfl rfl (Zp rfl rfl (Zg (Zav rfl rfl rfl) rfl (Zg (Zad rfl rfl rfl) rfl ?_))))))
    exact Zam rfl ⟨rfl, rfl, rfl, rfl, rfl, rfl, rfl, trivial⟩ (by
    first
    | (refine (decide_eq_true ?_).symm; have := of_decide_eq_true hg4_3; omega)
    | (refine decide_eq_decide.2 ?_; have := of_decide_eq_false hg4_3; omega))
  refine Zd ?_
  refine Zw rfl (fun hb4 => ?_) (fun hb4 => ?_)
  ·
   have h4 := of_decide_eq_true hb4
   have hLl : L.length ≤ 62 := by
    have := congrArg List.length hst
    rw [List.length_append] at this
    omega
   obtain ⟨uO, huO⟩ : ∃ x, x = u' := ⟨_, rfl⟩
   subst huO
   refine Zv (Zd (Zq (Ze (Zb (ym rfl rfl (ym rfl rfl (ym rfl rfl ?_)))))))
   refine ym rfl rfl (ym rfl rfl (ym rfl rfl (Zt rfl rfl ?_)))
   refine Zba (caps := []) trivial rfl rfl Tryd.c41 rfl (FnP.mono (next_fn same n m I K hI hK hn hm _ _ uO (hS.mono (hleL.trans hle4)) (hB.mono hle4)) ?_)
   rintro v uN hle0 ⟨na, nb, rfl, hnab⟩ hleN
   refine ym rfl rfl (Zg (y_extract rfl rfl rfl) rfl (Zg (y_extract rfl rfl rfl) rfl (ya rfl rfl (ya rfl rfl (Zf (ρ' := [(0, _), (1, _), (2, _), (7, _), (8, _), (9, _), (10, _), (11, _), (12, _)]) ⟨rfl, rfl, rfl, rfl, rfl, rfl, rfl, rfl, rfl, trivial⟩ ?_)))))
   refine Zd (Ze (Zb (ym rfl rfl (Zg (Zav rfl rfl rfl) rfl (ya rfl rfl (Zf (ρ' := [(0, _), (1, _), (2, _), (7, _), (8, _), (9, _), (10, _), (11, _), (12, _), (13, _)]) ⟨rfl, rfl, rfl, rfl, rfl, rfl, rfl, rfl, rfl, rfl, trivial⟩ ?_))))))
   refine Zd ?_
   refine wc_cut (fun ρ σ uc10 => ∃ (X Y : Nat) (e : Bool), VLe uO uc10 ∧ σ = [(508, (none, .row 51 3 L.length (chgsC L)))] ∧ ρ = [(0, .v vS), (1, .v (.int .i64 n)), (2, .v (.int .i64 m)), (7, .v vB), (8, .s 508), (9, .v (.int .i64 (I : Nat))), (10, .v (.int .i64 (K : Nat))), (11, .v (.int .i64 (X : Nat))), (12, .v (.int .i64 (Y : Nat))), (13, .v (.bool e))] ∧ (I ≤ X ∧ X ≤ n ∧ K ≤ Y ∧ Y ≤ m ∧ ((e = true ∧ X = n ∧ Y = m ∧ restS same n m I K = goneL I n ++ newL K m) ∨ (e = false ∧ X < n ∧ Y < m ∧ restS same n m I K = goneL I X ++ newL K Y ++ sameC X Y :: restS same n m (X + 1) (Y + 1))))) ?_ ?_
   ·
    refine Ze (Zb (ym rfl rfl (Zf (ρ' := [(0, _), (1, _), (2, _), (7, _), (8, _), (9, _), (10, _), (11, _), (12, _), (13, _), (38, _)]) ⟨rfl, rfl, rfl, rfl, rfl, rfl, rfl, rfl, rfl, rfl, rfl, trivial⟩ ?_)))
    refine Zd ?_
    refine Zw rfl (fun hb7 => ?_) (fun hb7 => ?_)
    ·
     obtain ⟨rfl, rfl, hno⟩ : na = -1 ∧ nb = -1 ∧ (nxt same n m (n - I) I K (best same n m I K) = none ∨ best same n m I K = 0) := by
      rcases hnab with h | ⟨x, y, rfl, _⟩
      ·
       exact h
      ·
       exact absurd (of_decide_eq_true hb7) (by omega)
     refine Ze (Zb (ym rfl rfl (ya rfl rfl (Zf (ρ' := [(0, _), (1, _), (2, _), (7, _), (8, _), (9, _), (10, _), (11, _), (13, _)]) ⟨rfl, rfl, rfl, rfl, rfl, rfl, rfl, rfl, rfl, trivial⟩ ?_))))
     refine Zd (Zb (ym rfl rfl (ya rfl rfl (Zf (ρ' := [(0, _), (1, _), (2, _), (7, _), (8, _), (9, _), (10, _), (11, _), (12, _), (13, _)]) ⟨rfl, rfl, rfl, rfl, rfl, rfl, rfl, rfl, rfl, rfl, trivial⟩ ?_))))
     refine Zab ?_
     first
      | (refine ⟨[(0, _), (1, _), (2, _), (7, _), (8, _), (9, _), (10, _), (11, _), (12, _), (13, _)], [(508, _)], ⟨rfl, rfl, rfl, rfl, rfl, rfl, rfl, rfl, rfl, rfl, trivial⟩, ⟨rfl, trivial⟩, n, m, decide ((-1 : Int) < 0), hleN, (by first | rfl | simp), (by first | rfl | (simp only [List.cons.injEq, Prod.mk.injEq, SV.v.injEq, Value.int.injEq, true_and, and_true]; omega) | simp), ?_⟩
         exact ⟨hI, Nat.le_refl _, hK, Nat.le_refl _, .inl ⟨decide_eq_true (by omega), rfl, rfl, steps_none (by omega) hno⟩⟩)
      | (refine ⟨[(0, _), (1, _), (2, _), (7, _), (8, _), (9, _), (10, _), (11, _), (12, _), (13, _)], [(508, _)], ⟨rfl, rfl, rfl, rfl, rfl, rfl, rfl, rfl, rfl, rfl, trivial⟩, ⟨rfl, trivial⟩, x, y, decide ((x : Int) < 0), hleN, (by first | rfl | simp), (by first | rfl | (simp only [List.cons.injEq, Prod.mk.injEq, SV.v.injEq, Value.int.injEq, true_and, and_true]; omega) | simp), ?_⟩
         exact ⟨p1, by omega, p3, by omega, .inr ⟨decide_eq_false (by omega), p2, p4, p5⟩⟩)
    ·
     have h7 := of_decide_eq_false hb7
     obtain ⟨x, y, rfl, rfl, hw0, hnx⟩ : ∃ x y : Nat, na = x ∧ nb = y ∧ best same n m I K ≠ 0 ∧ nxt same n m (n - I) I K (best same n m I K) = some (x, y) := by
      rcases hnab with ⟨rfl, _⟩ | h
      ·
       exact absurd (show (-1 : Int) < 0 by omega) h7
      ·
       exact h
     obtain ⟨p1, p2, p3, p4, p5⟩ := steps_some (i := I) (by omega : I + (n - I) = n) hw0 hnx
     refine Zv (Zab ?_)
     first
      | (refine ⟨[(0, _), (1, _), (2, _), (7, _), (8, _), (9, _), (10, _), (11, _), (12, _), (13, _)], [(508, _)], ⟨rfl, rfl, rfl, rfl, rfl, rfl, rfl, rfl, rfl, rfl, trivial⟩, ⟨rfl, trivial⟩, n, m, decide ((-1 : Int) < 0), hleN, (by first | rfl | simp), (by first | rfl | (simp only [List.cons.injEq, Prod.mk.injEq, SV.v.injEq, Value.int.injEq, true_and, and_true]; omega) | simp), ?_⟩
         exact ⟨hI, Nat.le_refl _, hK, Nat.le_refl _, .inl ⟨decide_eq_true (by omega), rfl, rfl, steps_none (by omega) hno⟩⟩)
      | (refine ⟨[(0, _), (1, _), (2, _), (7, _), (8, _), (9, _), (10, _), (11, _), (12, _), (13, _)], [(508, _)], ⟨rfl, rfl, rfl, rfl, rfl, rfl, rfl, rfl, rfl, rfl, trivial⟩, ⟨rfl, trivial⟩, x, y, decide ((x : Int) < 0), hleN, (by first | rfl | simp), (by first | rfl | (simp only [List.cons.injEq, Prod.mk.injEq, SV.v.injEq, Value.int.injEq, true_and, and_true]; omega) | simp), ?_⟩
         exact ⟨p1, by omega, p3, by omega, .inr ⟨decide_eq_false (by omega), p2, p4, p5⟩⟩)
   ·
    rintro ρ σ uc10 ⟨X, Y, e, hlc10, rfl, rfl, ⟨hIX, hXn, hKY, hYm, hxy⟩⟩
    refine Ze (Zq ?_)
    refine Zaq (fun m_0 ρ σ u' => ∃ g : Nat, g + m_0 = (X - I) ∧ VLe uc10 u' ∧ σ = [(508, (none, .row 51 3 (L ++ goneL I (I + g)).length (chgsC (L ++ goneL I (I + g)))))] ∧ ρ = [(0, .v vS), (1, .v (.int .i64 n)), (2, .v (.int .i64 m)), (7, .v vB), (8, .s 508), (9, .v (.int .i64 ((I + g : Nat) : Int))), (10, .v (.int .i64 (K : Nat))), (11, .v (.int .i64 (X : Nat))), (12, .v (.int .i64 (Y : Nat))), (13, .v (.bool e))] ∧ (True)) ((X - I)) ?_ ?_
    ·
     refine ⟨[(0, _), (1, _), (2, _), (7, _), (8, _), (9, _), (10, _), (11, _), (12, _), (13, _)], [(508, _)], ⟨rfl, rfl, rfl, rfl, rfl, rfl, rfl, rfl, rfl, rfl, trivial⟩, ⟨rfl, trivial⟩, 0, by omega, VLe.refl _, (by rw [Nat.add_zero, goneL_nil (Nat.le_refl _), List.append_nil]), rfl, ?_⟩
     trivial
    ·
     rintro mg ρ σ u' ⟨g, hi10, hle10, rfl, rfl, hinv10⟩
     refine Ze (Ze (Zb (ym rfl rfl (ym rfl rfl (Zg (Zav rfl rfl rfl) rfl (Zf (ρ' := [(0, _), (1, _), (2, _), (7, _), (8, _), (9, _), (10, _), (11, _), (12, _), (13, _), (43, _)]) ⟨rfl, rfl, rfl, rfl, rfl, rfl, rfl, rfl, rfl, rfl, rfl, trivial⟩ ?_))))))
     refine Zd ?_
     refine Zw rfl (fun hb10 => ?_) (fun hb10 => ?_)
     ·
      have h10 := of_decide_eq_true hb10
      have hgl := goneL_len I (I + g)
      have hll : (L ++ goneL I (I + g)).length ≤ 93 := by rw [List.length_append]; omega
      refine Zv (Zd (Zq (Ze (Zb (ym rfl rfl (ym rfl rfl (Zg (Zbh rfl Tryd.f51' Tryd.z51 (ps := [(_, _), (_, _), (_, _)]) rfl (vs := [_, _, _]) rfl) rfl ?_)))))))
      refine Zt rfl rfl ?_
      refine Zai trivial Tryd.s26 Tryd.z51 (ps := [(_, _)]) rfl (xs := [_, _, _]) rfl rfl rfl rfl rfl rfl rfl ?_
      refine Zt rfl rfl ?_
      refine Zay trivial rfl rfl Tryd.s26 Tryd.z51 rfl rfl rfl rfl rfl rfl (by first | rfl | assumption | simp [Value.oneCell', str]) (by omega) (by omega) (ρ' := [(0, _), (1, _), (2, _), (7, _), (9, _), (10, _), (11, _), (12, _), (13, _)]) ⟨rfl, rfl, rfl, rfl, rfl, rfl, rfl, rfl, rfl, trivial⟩ rfl rfl rfl ?_
      refine ya rfl rfl ?_
      refine Zbu 48 508 rfl rfl rfl ?_
      refine Zf (ρ' := [(0, _), (1, _), (2, _), (7, _), (8, _), (9, _), (10, _), (11, _), (12, _), (13, _)]) ⟨rfl, rfl, rfl, rfl, rfl, rfl, rfl, rfl, rfl, rfl, trivial⟩ ?_
      refine Zd (Zb (ym rfl rfl (Zg (Zap rfl rfl rfl (Zk (by omega))) rfl ?_)))
      refine ya rfl rfl (Zf (ρ' := [(0, _), (1, _), (2, _), (7, _), (8, _), (9, _), (10, _), (11, _), (12, _), (13, _)]) ⟨rfl, rfl, rfl, rfl, rfl, rfl, rfl, rfl, rfl, rfl, trivial⟩ ?_)
      refine Zah (Zab ?_)
      refine ⟨mg - 1, [(0, _), (1, _), (2, _), (7, _), (8, _), (9, _), (10, _), (11, _), (12, _), (13, _)], [(508, _)], by omega, ⟨rfl, rfl, rfl, rfl, rfl, rfl, rfl, rfl, rfl, rfl, trivial⟩, ⟨rfl, trivial⟩, g + 1, by omega, hle10, (by rw [← Nat.add_assoc, goneL_snoc (by omega), ← List.append_assoc]; generalize L ++ goneL I (I + g) = LG; rw [chgsC_app, List.length_append]; rfl), (by first | rfl | (simp only [List.cons.injEq, Prod.mk.injEq, SV.v.injEq, Value.int.injEq, true_and, and_true]; omega)), ?_⟩
      trivial
     ·
      have h10 := of_decide_eq_false hb10
      have hgX : I + g = X := by omega
      rw [hgX]
      obtain ⟨uP, huP⟩ : ∃ x, x = u' := ⟨_, rfl⟩
      subst huP
      have hgl := goneL_len I X
      obtain ⟨L1, hL1⟩ : ∃ L1, L1 = L ++ goneL I X := ⟨_, rfl⟩
      have hll : L1.length ≤ 93 := by rw [hL1, List.length_append]; omega
      rw [← hL1]
      refine Zan ?_
      refine Zh (Zh ?_)
      refine Zu ?_
      refine Zd (Ze (Zq ?_))
      refine Zaq (fun m_0 ρ σ u' => ∃ q : Nat, q + m_0 = (Y - K) ∧ VLe uP u' ∧ σ = [(508, (none, .row 51 3 (L1 ++ newL K (K + q)).length (chgsC (L1 ++ newL K (K + q)))))] ∧ ρ = [(0, .v vS), (1, .v (.int .i64 n)), (2, .v (.int .i64 m)), (7, .v vB), (8, .s 508), (9, .v (.int .i64 (X : Nat))), (10, .v (.int .i64 ((K + q : Nat) : Int))), (12, .v (.int .i64 (Y : Nat))), (13, .v (.bool e))] ∧ (True)) ((Y - K)) ?_ ?_
      ·
       refine ⟨[(0, _), (1, _), (2, _), (7, _), (8, _), (9, _), (10, _), (12, _), (13, _)], [(508, _)], ⟨rfl, rfl, rfl, rfl, rfl, rfl, rfl, rfl, rfl, trivial⟩, ⟨rfl, trivial⟩, 0, by omega, VLe.refl _, (by rw [Nat.add_zero, newL_nil (Nat.le_refl _), List.append_nil]), rfl, ?_⟩
       trivial
      ·
       rintro mq ρ σ u' ⟨q, hi13, hle13, rfl, rfl, hinv13⟩
       refine Ze (Ze (Zb (ym rfl rfl (ym rfl rfl (Zg (Zav rfl rfl rfl) rfl (Zf (ρ' := [(0, _), (1, _), (2, _), (7, _), (8, _), (9, _), (10, _), (12, _), (13, _), (53, _)]) ⟨rfl, rfl, rfl, rfl, rfl, rfl, rfl, rfl, rfl, rfl, trivial⟩ ?_))))))
       refine Zd ?_
       refine Zw rfl (fun hb13 => ?_) (fun hb13 => ?_)
       ·
        have h13 := of_decide_eq_true hb13
        have hgl2 := newL_len K (K + q)
        have hll2 : (L1 ++ newL K (K + q)).length ≤ 124 := by rw [List.length_append]; omega
        refine Zv (Zd (Zq (Ze (Zb (ym rfl rfl (ym rfl rfl (Zg (Zbh rfl Tryd.f51' Tryd.z51 (ps := [(_, _), (_, _), (_, _)]) rfl (vs := [_, _, _]) rfl) rfl ?_)))))))
        refine Zt rfl rfl ?_
        refine Zai trivial Tryd.s26 Tryd.z51 (ps := [(_, _)]) rfl (xs := [_, _, _]) rfl rfl rfl rfl rfl rfl rfl ?_
        refine Zt rfl rfl ?_
        refine Zay trivial rfl rfl Tryd.s26 Tryd.z51 rfl rfl rfl rfl rfl rfl (by first | rfl | assumption | simp [Value.oneCell', str]) (by omega) (by omega) (ρ' := [(0, _), (1, _), (2, _), (7, _), (9, _), (10, _), (12, _), (13, _)]) ⟨rfl, rfl, rfl, rfl, rfl, rfl, rfl, rfl, trivial⟩ rfl rfl rfl ?_
        refine ya rfl rfl ?_
        refine Zbu 58 508 rfl rfl rfl ?_
        refine Zf (ρ' := [(0, _), (1, _), (2, _), (7, _), (8, _), (9, _), (10, _), (12, _), (13, _)]) ⟨rfl, rfl, rfl, rfl, rfl, rfl, rfl, rfl, rfl, trivial⟩ ?_
        refine Zd (Zb (ym rfl rfl (Zg (Zap rfl rfl rfl (Zk (by omega))) rfl ?_)))
        refine ya rfl rfl (Zf (ρ' := [(0, _), (1, _), (2, _), (7, _), (8, _), (9, _), (10, _), (12, _), (13, _)]) ⟨rfl, rfl, rfl, rfl, rfl, rfl, rfl, rfl, rfl, trivial⟩ ?_)
        refine Zah (Zab ?_)
        refine ⟨mq - 1, [(0, _), (1, _), (2, _), (7, _), (8, _), (9, _), (10, _), (12, _), (13, _)], [(508, _)], by omega, ⟨rfl, rfl, rfl, rfl, rfl, rfl, rfl, rfl, rfl, trivial⟩, ⟨rfl, trivial⟩, q + 1, by omega, hle13, (by rw [← Nat.add_assoc, newL_snoc (by omega), ← List.append_assoc]; generalize L1 ++ newL K (K + q) = LG; rw [chgsC_app, List.length_append]; rfl), (by first | rfl | (simp only [List.cons.injEq, Prod.mk.injEq, SV.v.injEq, Value.int.injEq, true_and, and_true]; omega)), ?_⟩
        trivial
       ·
        have h13 := of_decide_eq_false hb13
        have hgY : K + q = Y := by omega
        rw [hgY]
        have hgl2 := newL_len K Y
        obtain ⟨LL, hLL⟩ : ∃ LL, LL = L1 ++ newL K Y := ⟨_, rfl⟩
        have hll2 : LL.length ≤ 124 := by rw [hLL, List.length_append]; omega
        rw [← hLL]
        refine Zan ?_
        refine Zh (Zh ?_)
        refine Zu ?_
        refine Zd (Ze (Zb (ym rfl rfl (Zg (y_not rfl rfl) rfl (Zf (ρ' := [(0, _), (1, _), (2, _), (7, _), (8, _), (9, _), (10, _), (62, _)]) ⟨rfl, rfl, rfl, rfl, rfl, rfl, rfl, rfl, trivial⟩ ?_)))))
        refine Zd ?_
        refine Zw rfl (fun hb16 => ?_) (fun hb16 => ?_)
        ·
         obtain ⟨hxy1, hxy2, hxy3⟩ : X < n ∧ Y < m ∧ restS same n m I K = goneL I X ++ newL K Y ++ sameC X Y :: restS same n m (X + 1) (Y + 1) := by
          rcases hxy with ⟨rfl, _⟩ | ⟨_, h⟩
          ·
           cases hb16
          ·
           exact h
         obtain ⟨L2, hL2⟩ : ∃ L2, L2 = LL ++ [sameC X Y] := ⟨_, rfl⟩
         obtain ⟨I2, hI2⟩ : ∃ I2, I2 = X + 1 := ⟨_, rfl⟩
         obtain ⟨K2, hK2⟩ : ∃ K2, K2 = Y + 1 := ⟨_, rfl⟩
         have hnext : I2 ≤ n ∧ K2 ≤ m ∧ z + 1 ≤ I2 + K2 ∧ textSteps same n m = L2 ++ restS same n m I2 K2 := by
          refine ⟨by omega, by omega, by omega, ?_⟩
          rw [hst, hxy3, hL2, hLL, hL1, hI2, hK2]
          simp
         refine Ze (Zb (ym rfl rfl (ym rfl rfl (ym rfl rfl (Zg (Zbh rfl Tryd.f51' Tryd.z51 (ps := [(_, _), (_, _), (_, _)]) rfl (vs := [_, _, _]) rfl) rfl ?_)))))
         refine Zt rfl rfl ?_
         refine Zai trivial Tryd.s26 Tryd.z51 (ps := [(_, _)]) rfl (xs := [_, _, _]) rfl rfl rfl rfl rfl rfl rfl ?_
         refine Zt rfl rfl ?_
         refine Zay trivial rfl rfl Tryd.s26 Tryd.z51 rfl rfl rfl rfl rfl rfl (by first | rfl | assumption | simp [Value.oneCell', str]) (by omega) (by omega) (ρ' := [(0, _), (1, _), (2, _), (7, _), (9, _), (10, _)]) ⟨rfl, rfl, rfl, rfl, rfl, rfl, trivial⟩ rfl rfl rfl ?_
         refine ya rfl rfl ?_
         refine Zbu 68 508 rfl rfl rfl ?_
         refine Zf (ρ' := [(0, _), (1, _), (2, _), (7, _), (8, _), (9, _), (10, _)]) ⟨rfl, rfl, rfl, rfl, rfl, rfl, rfl, trivial⟩ ?_
         refine Zd (Ze (Zb (ym rfl rfl (Zg (Zap rfl rfl rfl (Zk (by omega))) rfl ?_))))
         refine ya rfl rfl (Zf (ρ' := [(0, _), (1, _), (2, _), (7, _), (8, _), (9, _), (10, _)]) ⟨rfl, rfl, rfl, rfl, rfl, rfl, rfl, trivial⟩ ?_)
         refine Zd (Zb (ym rfl rfl (Zg (Zap rfl rfl rfl (Zk (by omega))) rfl ?_)))
         refine ya rfl rfl (Zf (ρ' := [(0, _), (1, _), (2, _), (7, _), (8, _), (9, _), (10, _)]) ⟨rfl, rfl, rfl, rfl, rfl, rfl, rfl, trivial⟩ ?_)
         refine Zah (Zab ?_)
         refine ⟨mz - 1, [(0, _), (1, _), (2, _), (7, _), (8, _), (9, _), (10, _)], [(508, _)], by omega, ⟨rfl, rfl, rfl, rfl, rfl, rfl, rfl, trivial⟩, ⟨rfl, trivial⟩, z + 1, by omega, (hle4.trans (hlc10.trans (hle10.trans hle13))), L2, I2, K2, (by rw [hL2] <;> first | rfl | (rw [chgsC_app, List.length_append]; rfl)), (by rw [hI2, hK2] <;> first | rfl | (simp only [List.cons.injEq, Prod.mk.injEq, SV.v.injEq, Value.int.injEq, true_and, and_true]; omega)), ?_⟩
         exact hnext
        ·
         obtain ⟨hxy1, hxy2, hxy3⟩ : X = n ∧ Y = m ∧ restS same n m I K = goneL I n ++ newL K m := by
          rcases hxy with ⟨_, h⟩ | ⟨rfl, _⟩
          ·
           exact h
          ·
           cases hb16
         obtain ⟨L2, hL2⟩ : ∃ L2, L2 = LL := ⟨_, rfl⟩
         obtain ⟨I2, hI2⟩ : ∃ I2, I2 = X := ⟨_, rfl⟩
         obtain ⟨K2, hK2⟩ : ∃ K2, K2 = Y := ⟨_, rfl⟩
         have hnext : I2 ≤ n ∧ K2 ≤ m ∧ z + 1 ≤ I2 + K2 ∧ textSteps same n m = L2 ++ restS same n m I2 K2 := by
          refine ⟨by omega, by omega, by omega, ?_⟩
          rw [hst, hxy3, hL2, hLL, hL1, hI2, hK2, hxy1, hxy2, restS_end, List.append_nil, List.append_assoc]
         refine Zv (Zah (Zab ?_))
         refine ⟨mz - 1, [(0, _), (1, _), (2, _), (7, _), (8, _), (9, _), (10, _)], [(508, _)], by omega, ⟨rfl, rfl, rfl, rfl, rfl, rfl, rfl, trivial⟩, ⟨rfl, trivial⟩, z + 1, by omega, (hle4.trans (hlc10.trans (hle10.trans hle13))), L2, I2, K2, (by rw [hL2] <;> first | rfl | (rw [chgsC_app, List.length_append]; rfl)), (by rw [hI2, hK2] <;> first | rfl | (simp only [List.cons.injEq, Prod.mk.injEq, SV.v.injEq, Value.int.injEq, true_and, and_true]; omega)), ?_⟩
         exact hnext
  ·
   have h4 := of_decide_eq_false hb4
   refine Zan ?_
   refine Zh (Zh ?_)
   refine Zu ?_
   refine Zd (Ze (Zb (ym rfl rfl ?_)))
   refine Zaz 508 rfl ?_
   intro ad508 cap508 uF hleF hF
   refine ya rfl rfl (Zf (ρ' := [(6, _)]) ⟨rfl, trivial⟩ ?_)
   refine Zd (Zaj (Zbf (.tmp rfl) ?_))
   have he : textSteps same n m = L := by rw [hst, show I = n by omega, show K = m by omega, restS_end, List.append_nil]
   rw [he]
   exact ⟨_, _, rfl, hF⟩
def rowQ (same : Nat → Nat → Bool) (i j : Nat) : Nat → Value := fun k => .bool (if k < j then same i k else false)
theorem rowQ0 {same : Nat → Nat → Bool} {m i : Nat} : cF m (fun _ => Value.bool false) = cF m (rowQ same i 0) := cF_ext fun k hk => rfl
theorem rowQ_put {same : Nat → Nat → Bool} {m i j : Nat} {b : Bool} (h : b = same i j) : cF m (fun k => if k = j then Value.bool b else rowQ same i j k) = cF m (rowQ same i (j + 1)) := by
 refine cF_ext fun k hk => ?_
 unfold rowQ
 by_cases e : k = j
 ·
  subst e; subst h; simp
 ·
  rw [if_neg e]
  by_cases e2 : k < j
  ·
   rw [if_pos e2, if_pos (by omega)]
  ·
   rw [if_neg e2, if_neg (by omega)]
theorem rowQ_full {same : Nat → Nat → Bool} {m i : Nat} : cF m (rowQ same i m) = cF m fun k => .bool (same i k) := cF_ext fun k hk => by simp [rowQ, hk]
set_option maxHeartbeats 4000000 in
theorem refTexts_fn (a b : List Bs) (n m : Nat) (han : a.length = n) (hbm : b.length = m) (hn : n ≤ 31) (hm : m ≤ 31) (va vb : Value) (u : View) (ha : StrS u va a) (hb : StrS u vb b) :
  FnP Tryd.prog 14 [va, vb] u fun r u' => ChS u' r (textSteps (sameS a b) n m) := by
 obtain ⟨aA, cA, rfl, hA⟩ := ha
 obtain ⟨aB, cB, rfl, hB⟩ := hb
 rw [han] at hA
 rw [hbm] at hB
 rw [han, hbm]
 refine FnP.intro [.tmp 4] Tryd.func14 rfl rfl rfl ?_
 intro w0 D hw0
 refine Ze (Zb (ya rfl rfl (Zf (ρ' := [(0, _), (1, _)]) ⟨rfl, rfl, trivial⟩ ?_)))
 refine Zd (Ze (Zb (ym rfl rfl (Zg (Zx rfl rfl Tryd.s22 rfl) rfl (Zt rfl rfl ?_)))))
 refine Zbr (n) trivial Tryd.s62 Tryd.z52 rfl rfl (by first | rfl | omega) (by first | rfl | omega) (by omega) (by omega) rfl rfl rfl ?_
 intro ad10
 rw [rep_cF]
 refine ya rfl rfl (Zf (ρ' := [(0, _), (1, _), (5, _)]) ⟨rfl, rfl, rfl, trivial⟩ ?_)
 refine Zd (Ze (Ze (Zb (ya rfl rfl (Zf (ρ' := [(0, _), (1, _), (5, _), (6, _)]) ⟨rfl, rfl, rfl, rfl, trivial⟩ ?_)))))
 refine Zd (Zq ?_)
 refine Zaq (fun m_0 ρ σ u' => ∃ x : Nat, x + m_0 = n ∧ VLe u u' ∧ ∃ (R : Nat → Value), σ = [(10, (none, .rwv (.slice ad10 n n) 52 1 n (cF n R)))] ∧ ρ = [(0, .v (.slice aA n cA)), (1, .v (.slice aB m cB)), (5, .v (.slice ad10 n n)), (6, .v (.int .i64 (x : Nat)))] ∧ (∀ k, k < x → IsSl u' (R k) m 1 (cF m fun j => .bool (sameS a b k j)))) (n) ?_ ?_
 ·
  refine ⟨[(0, _), (1, _), (5, _), (6, _)], [(10, _)], ⟨rfl, rfl, rfl, rfl, trivial⟩, ⟨rfl, trivial⟩, 0, by omega, VLe.refl _, fun _ => .slice none 0 0, (by first | rfl | simp), (by first | rfl | (simp only [List.cons.injEq, Prod.mk.injEq, SV.v.injEq, Value.int.injEq, true_and, and_true]; omega) | simp), ?_⟩
  exact fun k hk => by omega
 ·
  rintro mx ρ σ u' ⟨x, hi3, hle3, R, rfl, rfl, hR⟩
  refine Ze (Ze (Zb (ym rfl rfl (ym rfl rfl (Zg (Zx rfl rfl Tryd.s22 rfl) rfl (Zg (Zav rfl rfl rfl) rfl (Zf (ρ' := [(0, _), (1, _), (5, _), (6, _), (14, _)]) ⟨rfl, rfl, rfl, rfl, rfl, trivial⟩ ?_)))))))
  refine Zd ?_
  refine Zw rfl (fun hb3 => ?_) (fun hb3 => ?_)
  ·
   have h3 := of_decide_eq_true hb3
   obtain ⟨s, hs⟩ : ∃ s, a[x]? = some s := ⟨_, List.getElem?_eq_getElem (by omega)⟩
   have hcs := strsC_cut hs
   obtain ⟨uO, huO⟩ : ∃ x, x = u' := ⟨_, rfl⟩
   subst huO
   refine Zv (Zd (Ze (Zq (Ze (Zb (ym rfl rfl (ym rfl rfl ?_)))))))
   refine ym rfl rfl (Zg (Zx rfl rfl Tryd.s22 rfl) rfl (Zt rfl rfl ?_))
   refine Zbr (m) trivial Tryd.s52 Tryd.z4 rfl rfl (by first | rfl | omega) (by first | rfl | omega) (by omega) (by omega) rfl rfl rfl ?_
   intro ad21
   rw [rep_cF, rowQ0 (same := sameS a b) (i := x)]
   refine Zg (Zas 10 rfl Tryd.s62 rfl rfl rfl (j := x) (by first | rfl | omega) (by omega)) rfl (Zt rfl rfl ?_)
   refine Zbe trivial rfl Tryd.k52 rfl rfl rfl (vs := [_]) rfl rfl (by first | rfl | assumption | simp [Value.oneCell', str]) (by first | omega | (rw [cF_len]; omega) | simp) (by first | exact cF_set (by omega) | rfl) ?_
   refine Zf (ρ' := [(0, _), (1, _), (5, _), (6, _)]) ⟨rfl, rfl, rfl, rfl, trivial⟩ ?_
   refine Zd (Ze (Zb (ya rfl rfl (Zf (ρ' := [(0, _), (1, _), (5, _), (6, _), (7, _)]) ⟨rfl, rfl, rfl, rfl, rfl, trivial⟩ ?_))))
   refine Zd (Zq ?_)
   refine Zaq (fun m_0 ρ σ u' => ∃ j : Nat, j + m_0 = m ∧ VLe uO u' ∧ σ = [(10, (none, .rwv (.slice ad10 n n) 52 1 n (cF n (fun k => if k = x then .slice ad21 m m else R k)))), (21, (none, .rwv (.slice ad21 m m) 4 1 m (cF m (rowQ (sameS a b) x j))))] ∧ ρ = [(0, .v (.slice aA n cA)), (1, .v (.slice aB m cB)), (5, .v (.slice ad10 n n)), (6, .v (.int .i64 (x : Nat))), (7, .v (.int .i64 (j : Nat)))] ∧ (True)) (m) ?_ ?_
   ·
    refine ⟨[(0, _), (1, _), (5, _), (6, _), (7, _)], [(10, _), (21, _)], ⟨rfl, rfl, rfl, rfl, rfl, trivial⟩, ⟨rfl, rfl, trivial⟩, 0, by omega, VLe.refl _, (by first | rfl | simp), (by first | rfl | (simp only [List.cons.injEq, Prod.mk.injEq, SV.v.injEq, Value.int.injEq, true_and, and_true]; omega) | simp), ?_⟩
    trivial
   ·
    rintro mj ρ σ u' ⟨j, hi7, hle7, rfl, rfl, hinv7⟩
    refine Ze (Ze (Zb (ym rfl rfl (ym rfl rfl (Zg (Zx rfl rfl Tryd.s22 rfl) rfl (Zg (Zav rfl rfl rfl) rfl (Zf (ρ' := [(0, _), (1, _), (5, _), (6, _), (7, _), (26, _)]) ⟨rfl, rfl, rfl, rfl, rfl, rfl, trivial⟩ ?_)))))))
    refine Zd ?_
    refine Zw rfl (fun hb7 => ?_) (fun hb7 => ?_)
    ·
     have h7 := of_decide_eq_true hb7
     obtain ⟨t, ht⟩ : ∃ t, b[j]? = some t := ⟨_, List.getElem?_eq_getElem (by omega)⟩
     have hct := strsC_cut ht
     have hsm : decide (s = t) = sameS a b x j := by unfold sameS; rw [hs, ht]; simp
     have hmo := hle3.trans hle7
     refine Zv (Zd (Ze (Zq ?_)))
     refine Zbb Tryd.mixed rfl [(10, _)] ⟨rfl, trivial⟩ ?_
     refine Zak 0 rfl (by kernel_rfl) (Zc (Za (Za (Zc (Zc (Za (Za (Zc (Za (Zn)))))))))) (Zae rfl rfl) rfl (Zak 1 rfl (by kernel_rfl) (Zc (Za (Za (Zc (Zc (Za (Za (Zc (Za (Zn)))))))))) (Zae rfl rfl) rfl ?_)
     refine Zak 2 rfl (by kernel_rfl) (Zc (Za (Za (Zc (Zc (Za (Za (Zc (Za (Zn)))))))))) (Zas 10 rfl Tryd.s62 rfl rfl rfl (j := x) (by first | rfl | omega) (by omega)) rfl ?_
     refine Zak 3 rfl (by kernel_rfl) (Zc (Za (Za (Zc (Zc (Za (Za (Zc (Za (Zn)))))))))) (Zbk rfl Tryd.k52 rfl rfl rfl ((cF_cut (by omega)).trans (congrArg (fun x => [x]) (if_pos rfl))) rfl rfl (by rw [cF_len]; omega)) rfl ?_
     refine Zak 4 rfl (by kernel_rfl) (Zc (Za (Za (Zc (Zc (Za (Za (Zc (Za (Zn)))))))))) (Zae rfl rfl) rfl (Zak 5 rfl (by kernel_rfl) (Zc (Za (Za (Zc (Zc (Za (Za (Zc (Za (Zn)))))))))) (Zae rfl rfl) rfl (Zak 6 rfl (by kernel_rfl) (Zc (Za (Za (Zc (Zc (Za (Za (Zc (Za (Zn)))))))))) (Zae rfl rfl) rfl ?_))
     refine Zak 7 rfl (by kernel_rfl) (Zc (Za (Za (Zc (Zc (Za (Za (Zc (Za (Zn)))))))))) (Zs rfl Tryd.s22 rfl rfl (hA.mono hmo) (j := x) rfl (by omega)) rfl ?_
     refine Zak 8 rfl (by kernel_rfl) (Zc (Za (Za (Zc (Zc (Za (Za (Zc (Za (Zn)))))))))) (Zr rfl Tryd.k9 rfl (hA.mono hmo) (by omega) hcs (vs := [_]) rfl rfl rfl rfl) rfl ?_
     refine Zak 9 rfl (by kernel_rfl) (Zc (Za (Za (Zc (Zc (Za (Za (Zc (Za (Zn)))))))))) (Zae rfl rfl) rfl (Zak 10 rfl (by kernel_rfl) (Zc (Za (Za (Zc (Zc (Za (Za (Zc (Za (Zn)))))))))) (Zae rfl rfl) rfl ?_)
     refine Zak 11 rfl (by kernel_rfl) (Zc (Za (Za (Zc (Zc (Za (Za (Zc (Za (Zn)))))))))) (Zs rfl Tryd.s22 rfl rfl (hB.mono hmo) (j := j) rfl (by omega)) rfl ?_
     refine Zak 12 rfl (by kernel_rfl) (Zc (Za (Za (Zc (Zc (Za (Za (Zc (Za (Zn)))))))))) (Zr rfl Tryd.k9 rfl (hB.mono hmo) (by omega) hct (vs := [_]) rfl rfl rfl rfl) rfl ?_
     refine Zak 13 rfl (by kernel_rfl) (Zc (Za (Za (Zc (Zc (Za (Za (Zc (Za (Zn)))))))))) (y_str_eql rfl rfl rfl) rfl ?_
     refine Zak 14 rfl (by kernel_rfl) (Zc (Za (Za (Zc (Zc (Za (Za (Zc (Za (Zn)))))))))) (Zas 21 rfl Tryd.s52 rfl rfl rfl (j := j) (by first | rfl | omega) (by omega)) rfl ?_
     refine Zbi (i := 15) rfl rfl (by kernel_rfl) ?_
     refine Zbe ⟨rfl, trivial⟩ rfl Tryd.k4 rfl rfl rfl (vs := [_]) rfl rfl (by first | rfl | assumption | simp [Value.oneCell', str]) (by first | omega | (rw [cF_len]; omega) | simp) (by first | exact cF_set (by omega) | rfl) ?_
     rw [rowQ_put hsm]
     refine Zbn (by kernel_rfl) (ρ' := [(0, _), (1, _), (5, _), (6, _), (7, _)]) ⟨rfl, rfl, rfl, rfl, rfl, trivial⟩ ?_
     refine Zah (Zd (Zb (ym rfl rfl (Zg (Zap rfl rfl rfl (Zk (by omega))) rfl ?_))))
     refine ya rfl rfl (Zf (ρ' := [(0, _), (1, _), (5, _), (6, _), (7, _)]) ⟨rfl, rfl, rfl, rfl, rfl, trivial⟩ ?_)
     refine Zab ?_
     refine ⟨mj - 1, [(0, _), (1, _), (5, _), (6, _), (7, _)], [(10, _), (21, _)], by omega, ⟨rfl, rfl, rfl, rfl, rfl, trivial⟩, ⟨rfl, rfl, trivial⟩, j + 1, by omega, hle7, (by first | rfl | simp), (by first | rfl | (simp only [List.cons.injEq, Prod.mk.injEq, SV.v.injEq, Value.int.injEq, true_and, and_true]; omega) | simp), ?_⟩
     trivial
    ·
     have h7 := of_decide_eq_false hb7
     rw [show j = m by omega, rowQ_full]
     refine Zan ?_
     refine Zh (Zh ?_)
     refine Zu ?_
     refine Zah (Zd (Zb ?_))
     refine Zbj 21 rfl ?_
     intro u21 hle21 hs21
     refine ym rfl rfl (Zg (Zap rfl rfl rfl (Zk (by omega))) rfl ?_)
     refine ya rfl rfl (Zf (ρ' := [(0, _), (1, _), (5, _), (6, _)]) ⟨rfl, rfl, rfl, rfl, trivial⟩ ?_)
     refine Zab ?_
     refine ⟨mx - 1, [(0, _), (1, _), (5, _), (6, _)], [(10, _)], by omega, ⟨rfl, rfl, rfl, rfl, trivial⟩, ⟨rfl, trivial⟩, x + 1, by omega, (hle3.trans (hle7.trans hle21)), fun k => if k = x then .slice ad21 m m else R k, (by first | rfl | simp), (by first | rfl | (simp only [List.cons.injEq, Prod.mk.injEq, SV.v.injEq, Value.int.injEq, true_and, and_true]; omega) | simp), ?_⟩
     intro k hk
     by_cases e : k = x
     ·
      subst e
      simp only [if_true]
      exact hs21
     ·
      simp only [if_neg e]
      exact (hR k (by omega)).mono (hle7.trans hle21)
  ·
   have h3 := of_decide_eq_false hb3
   refine Zan ?_
   refine Zh (Zh ?_)
   refine Zu ?_
   refine Zd (Ze (Zb (ym rfl rfl (ym rfl rfl (Zg (Zx rfl rfl Tryd.s22 rfl) rfl (ym rfl rfl (Zg (Zx rfl rfl Tryd.s22 rfl) rfl ?_)))))))
   refine Zbj 10 rfl ?_
   intro u10 hle10 hs10
   refine Zt rfl rfl ?_
   refine Zba (caps := []) trivial rfl rfl Tryd.c31 rfl (FnP.mono (steps_fn (sameS a b) n m hn hm _ u10 ⟨_, _, _, rfl, slC_of hs10, fun k hk ↦ ⟨_, cF_get hk, (hR k (by omega)).mono hle10⟩⟩) ?_)
   rintro v uT hle0 hT hleT
   refine ya rfl rfl (Zf (ρ' := [(4, _)]) ⟨rfl, trivial⟩ ?_)
   refine Zd (Zaj (Zbf (.tmp rfl) ?_))
   exact hT
theorem toList_bs (a : Bs) : (⟨a.toArray⟩ : ByteArray).toList = a := by
 rw [ByteArray.toList_eq]
theorem cell_s (a b : Bs) : cellB (some (str a)) (some (str b)) = decide (a = b) := by
 show ((⟨a.toArray⟩ : ByteArray).toList == (⟨b.toArray⟩ : ByteArray).toList) = decide (a = b)
 rw [toList_bs, toList_bs]
 by_cases h : a = b
 ·
  subst h; simp
 ·
  rw [decide_eq_false h, beq_eq_false_iff_ne]; exact h
theorem cmp_pr (a b c d : Bs) : cmpB [(0, .s), (1, .s)] [str a, str b] [str c, str d] = true ↔ (a, b) = (c, d) := by
 show (cellB (some (str a)) (some (str c)) && (cellB (some (str b)) (some (str d)) && true)) = true ↔ _
 rw [cell_s, cell_s]
 simp
theorem cmp_ci (a b c : Bs) (e : Bool) (a' b' c' : Bs) (e' : Bool) : cmpB [(0, .s), (1, .s), (2, .s), (3, .b)] [str a, str b, str c, .bool e] [str a', str b', str c', .bool e'] = true ↔ (⟨a, b, c, e⟩ : DCite) = ⟨a', b', c', e'⟩ := by
 show (cellB (some (str a)) (some (str a')) && (cellB (some (str b)) (some (str b')) && (cellB (some (str c)) (some (str c')) && ((e == e') && true)))) = true ↔ _
 rw [cell_s, cell_s, cell_s]
 simp
theorem all_get {α : Type} {xs ys : List α} (hl : xs.length = ys.length) (h : ∀ k, k < xs.length → xs[k]? = ys[k]?) : xs = ys := by
 apply List.ext_getElem?
 intro k
 by_cases hk : k < xs.length
 ·
  exact h k hk
 ·
  rw [List.getElem?_eq_none (by omega), List.getElem?_eq_none (by omega)]
theorem get_up {α : Type} {xs ys : List α} {i : Nat} (h : ∀ k, k < i → xs[k]? = ys[k]?) (hi : xs[i]? = ys[i]?) : ∀ k, k < i + 1 → xs[k]? = ys[k]? := by
 intro k hk
 by_cases e : k = i
 ·
  rw [e]; exact hi
 ·
  exact h k (by omega)
abbrev SayEq {α : Type} (x y : α) (r : Value) : Prop := ∃ b : Bool, r = .bool b ∧ (b = true ↔ x = y)
theorem SayEq.no {α : Type} {x y : α} (h : x ≠ y) : SayEq x y (.bool false) := ⟨false, rfl, ⟨fun h => (by cases h), fun e => absurd e h⟩⟩
theorem SayEq.yes {α : Type} {x y : α} (h : x = y) : SayEq x y (.bool true) := ⟨true, rfl, ⟨fun _ => h, fun _ => rfl⟩⟩
set_option maxHeartbeats 2000000 in
theorem texts_dec (va vb : Value) (xs ys : List Bs) (hx : xs.length ≤ 140737488351232) (u : View) (ha : StrS u va xs) (hb : StrS u vb ys) :
  FnP Tryd.prog 61 [va, vb] u fun v _ => SayEq xs ys v := by
 obtain ⟨ad, cap, rfl, h1⟩ := ha
 obtain ⟨ad2, cap2, rfl, h2⟩ := hb
 refine FnP.intro [.tmp 4] Tryd.func61 rfl rfl rfl ?_
 intro w0 D hw0
 refine Ze (Zb (ya rfl rfl (Zf (ρ' := [(0, _), (1, _)]) ⟨rfl, rfl, trivial⟩ ?_)))
 refine Zd (Ze (Ze (Zb (ym rfl rfl (Zg (Zx rfl rfl Tryd.s22 rfl) rfl (ym rfl rfl (Zg (Zx rfl rfl Tryd.s22 rfl) rfl ?_)))))))
 refine Zg (y_neq rfl rfl rfl) rfl (Zf (ρ' := [(0, _), (1, _), (10, _)]) ⟨rfl, rfl, rfl, trivial⟩ ?_)
 refine Zd ?_
 refine Zw rfl (fun hb1 => ?_) (fun hb1 => ?_)
 ·
  have hh1 := of_decide_eq_true hb1
  refine Ze (Zb (ya rfl rfl (Zf (ρ' := [(4, _)]) ⟨rfl, trivial⟩ ?_)))
  refine Zd (Zaj (Zm (Zbf (.tmp rfl) ?_)))
  exact SayEq.no fun e => hh1 (by rw [e])
 ·
  have hl : xs.length = ys.length := by have := Decidable.of_not_not (of_decide_eq_false hb1); omega
  refine Zv (Zd (Ze (Ze (Zb (ya rfl rfl (Zf (ρ' := [(0, _), (1, _), (5, _)]) ⟨rfl, rfl, rfl, trivial⟩ ?_))))))
  refine Zd (Zq ?_)
  refine Zaq (fun m_0 ρ σ u' => ∃ i : Nat, i + m_0 = xs.length ∧ VLe u u' ∧ σ = [] ∧ ρ = [(0, .v (.slice ad xs.length cap)), (1, .v (.slice ad2 ys.length cap2)), (5, .v (.int .i64 i))] ∧ (u = u' ∧ ∀ k, k < i → xs[k]? = ys[k]?)) (xs.length) ?_ ?_
  ·
   refine ⟨[(0, _), (1, _), (5, _)], [], ⟨rfl, rfl, rfl, trivial⟩, trivial, 0, by omega, VLe.refl _, (by first | rfl | simp), (by first | rfl | (simp only [List.cons.injEq, Prod.mk.injEq, SV.v.injEq, Value.int.injEq, true_and, and_true]; omega) | simp), ?_⟩
   exact ⟨rfl, fun k hk => by omega⟩
  ·
   rintro m ρ σ u' ⟨i, hi4, hle4, rfl, rfl, ⟨rfl, hsm⟩⟩
   refine Ze (Ze (Zb (ym rfl rfl (ym rfl rfl (Zg (Zx rfl rfl Tryd.s22 rfl) rfl (Zg (Zav rfl rfl rfl) rfl (Zf (ρ' := [(0, _), (1, _), (5, _), (14, _)]) ⟨rfl, rfl, rfl, rfl, trivial⟩ ?_)))))))
   refine Zd ?_
   refine Zw rfl (fun hb4 => ?_) (fun hb4 => ?_)
   ·
    have h4 := of_decide_eq_true hb4
    obtain ⟨s, hs⟩ : ∃ s, xs[i]? = some s := ⟨_, List.getElem?_eq_getElem (by omega)⟩
    obtain ⟨t, ht⟩ : ∃ s, ys[i]? = some s := ⟨_, List.getElem?_eq_getElem (by omega)⟩
    have hc := cut_strsC hs
    have hd := cut_strsC ht
    refine Zv (Zd (Ze (Zq (Ze ?_))))
    refine Zbb Tryd.mixed rfl [] trivial ?_
    refine Zak 0 rfl (by kernel_rfl) (Za (Zc (Za (Za (Zc (Za (Zn))))))) (Zae rfl rfl) rfl (Zak 1 rfl (by kernel_rfl) (Za (Zc (Za (Za (Zc (Za (Zn))))))) (Zae rfl rfl) rfl ?_)
    refine Zak 2 rfl (by kernel_rfl) (Za (Zc (Za (Za (Zc (Za (Zn))))))) (Zs rfl Tryd.s22 rfl rfl h1 rfl (by omega)) rfl ?_
    refine Zak 3 rfl (by kernel_rfl) (Za (Zc (Za (Za (Zc (Za (Zn))))))) (Zr rfl Tryd.k9 rfl h1 (by omega) hc (vs := [_]) rfl rfl rfl rfl) rfl ?_
    refine Zak 4 rfl (by kernel_rfl) (Za (Zc (Za (Za (Zc (Za (Zn))))))) (Zae rfl rfl) rfl (Zak 5 rfl (by kernel_rfl) (Za (Zc (Za (Za (Zc (Za (Zn))))))) (Zae rfl rfl) rfl ?_)
    refine Zak 6 rfl (by kernel_rfl) (Za (Zc (Za (Za (Zc (Za (Zn))))))) (Zs rfl Tryd.s22 rfl rfl h2 rfl (by omega)) rfl ?_
    refine Zak 7 rfl (by kernel_rfl) (Za (Zc (Za (Za (Zc (Za (Zn))))))) (Zr rfl Tryd.k9 rfl h2 (by omega) hd (vs := [_]) rfl rfl rfl rfl) rfl ?_
    refine Zak 8 rfl (by kernel_rfl) (Za (Zc (Za (Za (Zc (Za (Zn))))))) (Zbp rfl rfl rfl) rfl ?_
    refine Zbn (by kernel_rfl) (ρ' := [(0, _), (1, _), (5, _), (25, _)]) ⟨rfl, rfl, rfl, rfl, trivial⟩ ?_
    refine Zd ?_
    refine Zw rfl (fun hb6 => ?_) (fun hb6 => ?_)
    ·
     have h6 := of_decide_eq_true hb6
     refine Ze (Zb (ya rfl rfl (Zf (ρ' := [(4, _)]) ⟨rfl, trivial⟩ ?_)))
     refine Zd (Zaj (Zaa (Zm (Zm (Zaa (Zm (Zbf (.tmp rfl) ?_)))))))
     exact SayEq.no fun e => h6 (by rw [e, ht] at hs; exact (Option.some.inj hs).symm)
    ·
     have h6 : s = t := Decidable.of_not_not (of_decide_eq_false hb6)
     refine Zv (Zah (Zd (Zb (ym rfl rfl (Zg (Zap rfl rfl rfl (Zk (by omega))) rfl ?_)))))
     refine ya rfl rfl (Zf (ρ' := [(0, _), (1, _), (5, _)]) ⟨rfl, rfl, rfl, trivial⟩ ?_)
     refine Zab ?_
     refine ⟨m - 1, [(0, _), (1, _), (5, _)], [], by omega, ⟨rfl, rfl, rfl, trivial⟩, trivial, i + 1, by omega, hle4, (by first | rfl | simp), (by first | rfl | (simp only [List.cons.injEq, Prod.mk.injEq, SV.v.injEq, Value.int.injEq, true_and, and_true]; omega) | simp), ?_⟩
     exact ⟨rfl, get_up hsm (by rw [hs, ht, h6])⟩
   ·
    have h4 := of_decide_eq_false hb4
    refine Zan ?_
    refine Zh (Zh ?_)
    refine Zu ?_
    refine Zd (Ze (Zb (ya rfl rfl (Zf (ρ' := [(4, _)]) ⟨rfl, trivial⟩ ?_))))
    refine Zd (Zaj (Zbf (.tmp rfl) ?_))
    exact SayEq.yes (all_get hl fun k hk => hsm k (by omega))
set_option maxHeartbeats 2000000 in
theorem pairs_dec (va vb : Value) (xs ys : List (Bs × Bs)) (hx : xs.length ≤ 140737488351232) (u : View) (ha : PrS u va xs) (hb : PrS u vb ys) :
  FnP Tryd.prog 62 [va, vb] u fun v _ => SayEq xs ys v := by
 obtain ⟨ad, cap, rfl, h1⟩ := ha
 obtain ⟨ad2, cap2, rfl, h2⟩ := hb
 refine FnP.intro [.tmp 4] Tryd.func62 rfl rfl rfl ?_
 intro w0 D hw0
 refine Ze (Zb (ya rfl rfl (Zf (ρ' := [(0, _), (1, _)]) ⟨rfl, rfl, trivial⟩ ?_)))
 refine Zd (Ze (Ze (Zb (ym rfl rfl (Zg (Zx rfl rfl Tryd.s28 rfl) rfl (ym rfl rfl (Zg (Zx rfl rfl Tryd.s28 rfl) rfl ?_)))))))
 refine Zg (y_neq rfl rfl rfl) rfl (Zf (ρ' := [(0, _), (1, _), (10, _)]) ⟨rfl, rfl, rfl, trivial⟩ ?_)
 refine Zd ?_
 refine Zw rfl (fun hb1 => ?_) (fun hb1 => ?_)
 ·
  have hh1 := of_decide_eq_true hb1
  refine Ze (Zb (ya rfl rfl (Zf (ρ' := [(4, _)]) ⟨rfl, trivial⟩ ?_)))
  refine Zd (Zaj (Zm (Zbf (.tmp rfl) ?_)))
  exact SayEq.no fun e => hh1 (by rw [e])
 ·
  have hl : xs.length = ys.length := by have := Decidable.of_not_not (of_decide_eq_false hb1); omega
  refine Zv (Zd (Ze (Ze (Zb (ya rfl rfl (Zf (ρ' := [(0, _), (1, _), (5, _)]) ⟨rfl, rfl, rfl, trivial⟩ ?_))))))
  refine Zd (Zq ?_)
  refine Zaq (fun m_0 ρ σ u' => ∃ i : Nat, i + m_0 = xs.length ∧ VLe u u' ∧ σ = [] ∧ ρ = [(0, .v (.slice ad xs.length cap)), (1, .v (.slice ad2 ys.length cap2)), (5, .v (.int .i64 i))] ∧ (u = u' ∧ ∀ k, k < i → xs[k]? = ys[k]?)) (xs.length) ?_ ?_
  ·
   refine ⟨[(0, _), (1, _), (5, _)], [], ⟨rfl, rfl, rfl, trivial⟩, trivial, 0, by omega, VLe.refl _, (by first | rfl | simp), (by first | rfl | (simp only [List.cons.injEq, Prod.mk.injEq, SV.v.injEq, Value.int.injEq, true_and, and_true]; omega) | simp), ?_⟩
   exact ⟨rfl, fun k hk => by omega⟩
  ·
   rintro m ρ σ u' ⟨i, hi4, hle4, rfl, rfl, ⟨rfl, hsm⟩⟩
   refine Ze (Ze (Zb (ym rfl rfl (ym rfl rfl (Zg (Zx rfl rfl Tryd.s28 rfl) rfl (Zg (Zav rfl rfl rfl) rfl (Zf (ρ' := [(0, _), (1, _), (5, _), (14, _)]) ⟨rfl, rfl, rfl, rfl, trivial⟩ ?_)))))))
   refine Zd ?_
   refine Zw rfl (fun hb4 => ?_) (fun hb4 => ?_)
   ·
    have h4 := of_decide_eq_true hb4
    obtain ⟨⟨s1, s2⟩, hs⟩ : ∃ s, xs[i]? = some s := ⟨_, List.getElem?_eq_getElem (by omega)⟩
    obtain ⟨⟨t1, t2⟩, ht⟩ : ∃ s, ys[i]? = some s := ⟨_, List.getElem?_eq_getElem (by omega)⟩
    have hc : cut (pairsC xs) (i * 2) 2 = [str s1, str s2] := cut_pairsC hs
    have hd : cut (pairsC ys) (i * 2) 2 = [str t1, str t2] := cut_pairsC ht
    refine Zv (Zd (Ze (Zq (Ze ?_))))
    refine Zbb Tryd.mixed rfl [] trivial ?_
    refine Zak 0 rfl (by kernel_rfl) (Za (Zc (Za (Za (Zc (Za (Zn))))))) (Zae rfl rfl) rfl (Zak 1 rfl (by kernel_rfl) (Za (Zc (Za (Za (Zc (Za (Zn))))))) (Zae rfl rfl) rfl ?_)
    refine Zak 2 rfl (by kernel_rfl) (Za (Zc (Za (Za (Zc (Za (Zn))))))) (Zs rfl Tryd.s28 rfl rfl h1 rfl (by omega)) rfl ?_
    refine Zak 3 rfl (by kernel_rfl) (Za (Zc (Za (Za (Zc (Za (Zn))))))) (Zr rfl Tryd.k65 rfl h1 (by omega) hc (vs := [_, _]) rfl rfl rfl rfl) rfl ?_
    refine Zak 4 rfl (by kernel_rfl) (Za (Zc (Za (Za (Zc (Za (Zn))))))) (Zae rfl rfl) rfl (Zak 5 rfl (by kernel_rfl) (Za (Zc (Za (Za (Zc (Za (Zn))))))) (Zae rfl rfl) rfl ?_)
    refine Zak 6 rfl (by kernel_rfl) (Za (Zc (Za (Za (Zc (Za (Zn))))))) (Zs rfl Tryd.s28 rfl rfl h2 rfl (by omega)) rfl ?_
    refine Zak 7 rfl (by kernel_rfl) (Za (Zc (Za (Za (Zc (Za (Zn))))))) (Zr rfl Tryd.k65 rfl h2 (by omega) hd (vs := [_, _]) rfl rfl rfl rfl) rfl ?_
    refine Zak 8 rfl (by kernel_rfl) (Za (Zc (Za (Za (Zc (Za (Zn))))))) (y_neq_flat Tryd.q65 rfl rfl rfl rfl rfl) rfl ?_
    refine Zbn (by kernel_rfl) (ρ' := [(0, _), (1, _), (5, _), (25, _)]) ⟨rfl, rfl, rfl, rfl, trivial⟩ ?_
    refine Zd ?_
    refine Zw rfl (fun hb6 => ?_) (fun hb6 => ?_)
    ·
     have h6 : ¬ (s1, s2) = (t1, t2) := fun e => by
      have h := (cmp_pr s1 s2 t1 t2).2 e
      have h' : (!cmpB [(0, .s), (1, .s)] [str s1, str s2] [str t1, str t2]) = true := hb6
      rw [h] at h'; cases h'
     refine Ze (Zb (ya rfl rfl (Zf (ρ' := [(4, _)]) ⟨rfl, trivial⟩ ?_)))
     refine Zd (Zaj (Zaa (Zm (Zm (Zaa (Zm (Zbf (.tmp rfl) ?_)))))))
     exact SayEq.no fun e => h6 (by rw [e, ht] at hs; exact (Option.some.inj hs).symm)
    ·
     have h6 : (s1, s2) = (t1, t2) := (cmp_pr s1 s2 t1 t2).1 (by
      have h' : (!cmpB [(0, .s), (1, .s)] [str s1, str s2] [str t1, str t2]) = false := hb6
      revert h'
      cases cmpB [(0, .s), (1, .s)] [str s1, str s2] [str t1, str t2] <;> simp)
     refine Zv (Zah (Zd (Zb (ym rfl rfl (Zg (Zap rfl rfl rfl (Zk (by omega))) rfl ?_)))))
     refine ya rfl rfl (Zf (ρ' := [(0, _), (1, _), (5, _)]) ⟨rfl, rfl, rfl, trivial⟩ ?_)
     refine Zab ?_
     refine ⟨m - 1, [(0, _), (1, _), (5, _)], [], by omega, ⟨rfl, rfl, rfl, trivial⟩, trivial, i + 1, by omega, hle4, (by first | rfl | simp), (by first | rfl | (simp only [List.cons.injEq, Prod.mk.injEq, SV.v.injEq, Value.int.injEq, true_and, and_true]; omega) | simp), ?_⟩
     exact ⟨rfl, get_up hsm (by rw [hs, ht, h6])⟩
   ·
    have h4 := of_decide_eq_false hb4
    refine Zan ?_
    refine Zh (Zh ?_)
    refine Zu ?_
    refine Zd (Ze (Zb (ya rfl rfl (Zf (ρ' := [(4, _)]) ⟨rfl, trivial⟩ ?_))))
    refine Zd (Zaj (Zbf (.tmp rfl) ?_))
    exact SayEq.yes (all_get hl fun k hk => hsm k (by omega))
theorem attrs_dec (a b : DAttr) (vc vp vc2 vp2 : Value) (h40 : a.classes.length ≤ 140737488351232) (hp40 : a.pairs.length ≤ 140737488351232) (u : View) (h1 : StrS u vc a.classes) (h2 : PrS u vp a.pairs) (h3 : StrS u vc2 b.classes) (h4 : PrS u vp2 b.pairs) :
  FnP Tryd.prog 46 [.agg #[str a.id, vc, vp], .agg #[str b.id, vc2, vp2]] u fun v _ => SayEq a b v := by
 refine FnP.intro [.tmp 4] Tryd.func46 rfl rfl rfl ?_
 intro w0 D hw0
 refine Ze (Zb (Zt rfl rfl ?_))
 refine do_box trivial rfl (cs := [_, _, _]) rfl rfl rfl rfl ?_
 refine Zt rfl rfl ?_
 refine do_box trivial rfl (cs := [_, _, _]) rfl rfl rfl rfl ?_
 refine ya rfl rfl (Zf (ρ' := [(2, _), (3, _)]) ⟨rfl, rfl, trivial⟩ ?_)
 refine Zd (Ze (Zb (Zg (Zi rfl Tryd.f37' rfl (by decide) rfl) rfl (Zg (Zl rfl Tryd.k9 rfl rfl rfl (vs := [_]) rfl rfl rfl) rfl (Zg (Zi rfl Tryd.f37' rfl (by decide) rfl) rfl (Zg (Zl rfl Tryd.k9 rfl rfl rfl (vs := [_]) rfl rfl rfl) rfl (Zg (y_str_eql rfl rfl rfl) rfl ?_)))))))
 refine ym rfl rfl ?_
 refine Zar 10 rfl (fun hg1_5 => ?_) (fun hg1_5 => ?_)
 ·
  refine Zp rfl rfl (Zg (Zi rfl Tryd.f37' rfl (by decide) rfl) rfl (Zp rfl rfl (Zg (Zl rfl Tryd.k22 rfl rfl rfl (vs := [_]) rfl rfl rfl) rfl (Zp rfl rfl (Zg (Zi rfl Tryd.f37' rfl (by decide) rfl) rfl (Zp rfl rfl (Zg (Zl rfl Tryd.k22 rfl rfl rfl (vs := [_]) rfl rfl rfl) rfl ?_)))))))
  refine Zp rfl rfl (Zt rfl rfl ?_)
  refine Zac (caps := []) trivial rfl rfl Tryd.c61 rfl (FnP.mono (texts_dec _ _ _ _ h40 u h1 h3) ?_)
  rintro v u1 hle1 ⟨b1, rfl, hb1⟩
  refine Zg (Zo rfl rfl rfl) rfl (ym rfl rfl ?_)
  refine Zar 17 rfl (fun hg1_12 => ?_) (fun hg1_12 => ?_)
  ·
   refine Zp rfl rfl (Zg (Zi rfl Tryd.f37' rfl (by decide) rfl) rfl (Zp rfl rfl (Zg (Zl rfl Tryd.k28 rfl rfl rfl (vs := [_]) rfl rfl rfl) rfl (Zp rfl rfl (Zg (Zi rfl Tryd.f37' rfl (by decide) rfl) rfl (Zp rfl rfl (Zg (Zl rfl Tryd.k28 rfl rfl rfl (vs := [_]) rfl rfl rfl) rfl ?_)))))))
   refine Zp rfl rfl (Zt rfl rfl ?_)
   refine Zac (caps := []) trivial rfl rfl Tryd.c62 rfl (FnP.mono (pairs_dec _ _ _ _ hp40 u h2 h4) ?_)
   rintro v u1 hle1 ⟨b2, rfl, hb2⟩
   refine Zg (Zo rfl rfl rfl) rfl (ya rfl rfl (Zf (ρ' := [(4, _)]) ⟨rfl, trivial⟩ ?_))
   refine Zd (Zaj (Zbf (.tmp rfl) ?_))
   first
   | exact SayEq.no fun e => of_decide_eq_false hg1_5 (by rw [e])
   | exact SayEq.no fun e => by rw [hb1.2 (by rw [e])] at hg1_12; cases hg1_12
   | (refine ⟨b2, rfl, ⟨fun h => ?_, fun e => hb2.2 (by rw [e])⟩⟩
      have e1 := of_decide_eq_true hg1_5
      have e2 := hb1.1 hg1_12
      have e3 := hb2.1 h
      cases a; cases b
      simp only at e1 e2 e3
      rw [e1, e2, e3])
  ·
   iterate 5 refine Zaf rfl rfl rfl rfl ?_
   refine Zg (Zad rfl rfl rfl) rfl (ya rfl rfl (Zf (ρ' := [(4, _)]) ⟨rfl, trivial⟩ ?_))
   refine Zd (Zaj (Zbf (.tmp rfl) ?_))
   first
   | exact SayEq.no fun e => of_decide_eq_false hg1_5 (by rw [e])
   | exact SayEq.no fun e => by rw [hb1.2 (by rw [e])] at hg1_12; cases hg1_12
   | (refine ⟨b2, rfl, ⟨fun h => ?_, fun e => hb2.2 (by rw [e])⟩⟩
      have e1 := of_decide_eq_true hg1_5
      have e2 := hb1.1 hg1_12
      have e3 := hb2.1 h
      cases a; cases b
      simp only at e1 e2 e3
      rw [e1, e2, e3])
 ·
  iterate 5 refine Zaf rfl rfl rfl rfl ?_
  refine Zg (Zad rfl rfl rfl) rfl (ym rfl rfl ?_)
  iterate 5 refine Zaf rfl rfl rfl rfl ?_
  refine Zg (Zad rfl rfl rfl) rfl (ya rfl rfl (Zf (ρ' := [(4, _)]) ⟨rfl, trivial⟩ ?_))
  refine Zd (Zaj (Zbf (.tmp rfl) ?_))
  first
  | exact SayEq.no fun e => of_decide_eq_false hg1_5 (by rw [e])
  | exact SayEq.no fun e => by rw [hb1.2 (by rw [e])] at hg1_12; cases hg1_12
  | (refine ⟨b2, rfl, ⟨fun h => ?_, fun e => hb2.2 (by rw [e])⟩⟩
     have e1 := of_decide_eq_true hg1_5
     have e2 := hb1.1 hg1_12
     have e3 := hb2.1 h
     cases a; cases b
     simp only at e1 e2 e3
     rw [e1, e2, e3])
set_option maxHeartbeats 8000000 in
theorem sameLine_dec (n : Nat) : ∀ (va vb : Value) (xs ys : List Inl), szI xs ≤ n → xs.length ≤ 140737488351232 → ∀ u : View, InlS u va xs → InlS u vb ys →
  FnP Tryd.prog 47 [va, vb] u fun v _ => SayEq xs ys v := by
 induction n using Nat.strongRecOn with
 | _ n ih =>
 intro va vb xs ys hsz hx u ha hb
 obtain ⟨cs1, ⟨ad, cap, rfl, h1⟩, hc1⟩ := ha
 obtain ⟨cs2, ⟨ad2, cap2, rfl, h2⟩, hc2⟩ := hb
 refine FnP.intro [.tmp 4] Tryd.func47 rfl rfl rfl ?_
 intro w0 D hw0
 refine Ze (Zb (ya rfl rfl (Zf (ρ' := [(0, _), (1, _)]) ⟨rfl, rfl, trivial⟩ ?_)))
 refine Zd (Ze (Ze (Zb (ym rfl rfl (Zg (Zx rfl rfl Tryd.s35 rfl) rfl (ym rfl rfl (Zg (Zx rfl rfl Tryd.s35 rfl) rfl ?_)))))))
 refine Zg (y_neq rfl rfl rfl) rfl (Zf (ρ' := [(0, _), (1, _), (13, _)]) ⟨rfl, rfl, rfl, trivial⟩ ?_)
 refine Zd ?_
 refine Zw rfl (fun hb1 => ?_) (fun hb1 => ?_)
 ·
  have hh1 := of_decide_eq_true hb1
  refine Ze (Zb (ya rfl rfl (Zf (ρ' := [(4, _)]) ⟨rfl, trivial⟩ ?_)))
  refine Zd (Zaj (Zm (Zbf (.tmp rfl) ?_)))
  exact SayEq.no fun e => hh1 (by rw [e])
 ·
  have hl : xs.length = ys.length := by have := Decidable.of_not_not (of_decide_eq_false hb1); omega
  refine Zv (Zd (Ze (Ze (Zb (ya rfl rfl (Zf (ρ' := [(0, _), (1, _), (5, _)]) ⟨rfl, rfl, rfl, trivial⟩ ?_))))))
  refine Zd (Zq ?_)
  refine Zaq (fun m_0 ρ σ u' => ∃ i : Nat, i + m_0 = xs.length ∧ VLe u u' ∧ σ = [] ∧ ρ = [(0, .v (.slice ad xs.length cap)), (1, .v (.slice ad2 ys.length cap2)), (5, .v (.int .i64 i))] ∧ (u = u' ∧ ∀ k, k < i → xs[k]? = ys[k]?)) (xs.length) ?_ ?_
  ·
   refine ⟨[(0, _), (1, _), (5, _)], [], ⟨rfl, rfl, rfl, trivial⟩, trivial, 0, by omega, VLe.refl _, (by first | rfl | simp), (by first | rfl | (simp only [List.cons.injEq, Prod.mk.injEq, SV.v.injEq, Value.int.injEq, true_and, and_true]; omega) | simp), ?_⟩
   exact ⟨rfl, fun k hk => by omega⟩
  ·
   rintro m ρ σ u' ⟨i, hi4, hle4, rfl, rfl, ⟨rfl, hsm⟩⟩
   refine Ze (Ze (Zb (ym rfl rfl (ym rfl rfl (Zg (Zx rfl rfl Tryd.s35 rfl) rfl (Zg (Zav rfl rfl rfl) rfl (Zf (ρ' := [(0, _), (1, _), (5, _), (17, _)]) ⟨rfl, rfl, rfl, rfl, trivial⟩ ?_)))))))
   refine Zd ?_
   refine Zw rfl (fun hb4 => ?_) (fun hb4 => ?_)
   ·
    have hlt : i < xs.length := by have := of_decide_eq_true hb4; omega
    have hlt2 : i < ys.length := by omega
    obtain ⟨k, t, d, ti, a, args, cites, kids, vc, vp, va, vt, vk, hg, hcut1, s1, s2, s3, s4, s5, hok⟩ := hc1.at hlt
    obtain ⟨k', t', d', ti', a', args', cites', kids', vc', vp', va', vt', vk', hg', hcut2, s1', s2', s3', s4', s5', _⟩ := hc2.at hlt2
    obtain ⟨_, _, _, _, ⟨_, ⟨okc, _⟩, ⟨okp, _⟩⟩, ⟨oka, _⟩, ⟨okt, _⟩, okk⟩ := hok
    have oneAll := (hc1.get i _ hg).one
    rw [hcut1] at oneAll
    have oneAll2 := (hc2.get i _ hg').one
    rw [hcut2] at oneAll2
    have hkid := szI_kids hg
    obtain ⟨adt, capt, rfl, h4⟩ := s4
    obtain ⟨adt', capt', rfl, h4'⟩ := s4'
    have hxy : xs = ys → k = k' ∧ t = t' ∧ d = d' ∧ ti = ti' ∧ a = a' ∧ args = args' ∧ cites = cites' ∧ kids = kids' := fun e => by
     rw [e, hg'] at hg
     cases Option.some.inj hg
     exact ⟨rfl, rfl, rfl, rfl, rfl, rfl, rfl, rfl⟩
    refine Zv (Zd (Ze (Zq (Ze ?_))))
    refine wc_cutS [(6, .p 6 0), (7, .p 7 0)] [(6, (none, .box (inlV k t d ti a.id vc vp va (.slice adt cites.length capt) vk))), (7, (none, .box (inlV k' t' d' ti' a'.id vc' vp' va' (.slice adt' cites'.length capt') vk')))] (ρa := [(0, _), (1, _), (5, _)]) (σa := []) ⟨rfl, rfl, rfl, trivial⟩ trivial ?_ ?_
    ·
     refine Zbb Tryd.mixed rfl [] trivial ?_
     refine Zak 0 rfl (by kernel_rfl) (Zbt) (Zae rfl rfl) rfl (Zak 1 rfl (by kernel_rfl) (Zbt) (Zae rfl rfl) rfl ?_)
     refine Zak 2 rfl (by kernel_rfl) (Zbt) (Zs rfl Tryd.s35 rfl rfl h1 rfl (by omega)) rfl ?_
     refine Zak 3 rfl (by kernel_rfl) (Zbt) (Zr rfl Tryd.k44 rfl h1 (by omega) hcut1 (vs := [_, _, _, _, _, _, _, _, _, _]) rfl rfl rfl rfl) rfl ?_
     refine Zak 4 rfl (by kernel_rfl) (Zbt) (Zae rfl rfl) rfl (Zak 5 rfl (by kernel_rfl) (Zbt) (Zae rfl rfl) rfl ?_)
     refine Zak 6 rfl (by kernel_rfl) (Zbt) (Zs rfl Tryd.s35 rfl rfl h2 rfl (by omega)) rfl ?_
     refine Zak 7 rfl (by kernel_rfl) (Zbt) (Zr rfl Tryd.k44 rfl h2 (by omega) hcut2 (vs := [_, _, _, _, _, _, _, _, _, _]) rfl rfl rfl rfl) rfl ?_
     refine ra_all (is := [8, 9]) (by kernel_rfl) rfl ?_
     refine raall_cons rfl rfl ?_ ?_
     ·
      refine Zau trivial Tryd.z44 rfl rfl rfl ?_
      refine Zbi (i := 9) rfl rfl (by kernel_rfl) ?_
      refine Zau trivial Tryd.z44 rfl rfl rfl ?_
      refine Zbi (i := 10) rfl rfl (by kernel_rfl) ?_
      refine Zao trivial rfl Tryd.k44 rfl rfl rfl (vs := [_, _, _, _, _, _, _, _, _, _]) rfl rfl (by first | rfl | assumption | simp [Value.oneCell', str]) (Nat.le_of_ble_eq_true rfl) rfl ?_
      refine Zbi (i := 11) rfl rfl (by kernel_rfl) ?_
      refine Zao trivial rfl Tryd.k44 rfl rfl rfl (vs := [_, _, _, _, _, _, _, _, _, _]) rfl rfl (by first | rfl | assumption | simp [Value.oneCell', str]) (Nat.le_of_ble_eq_true rfl) rfl ?_
      exact cutS_endA (by kernel_rfl) ⟨rfl, rfl, rfl, rfl, rfl, trivial⟩ ⟨rfl, rfl, trivial⟩
     refine raall_cons rfl rfl ?_ ?_
     ·
      refine Zau trivial Tryd.z44 rfl rfl rfl ?_
      refine Zbi (i := 8) rfl rfl (by kernel_rfl) ?_
      refine Zau trivial Tryd.z44 rfl rfl rfl ?_
      refine Zbi (i := 10) rfl rfl (by kernel_rfl) ?_
      refine Zao trivial rfl Tryd.k44 rfl rfl rfl (vs := [_, _, _, _, _, _, _, _, _, _]) rfl rfl (by first | rfl | assumption | simp [Value.oneCell', str]) (Nat.le_of_ble_eq_true rfl) rfl ?_
      refine Zbi (i := 11) rfl rfl (by kernel_rfl) ?_
      refine Zao trivial rfl Tryd.k44 rfl rfl rfl (vs := [_, _, _, _, _, _, _, _, _, _]) rfl rfl (by first | rfl | assumption | simp [Value.oneCell', str]) (Nat.le_of_ble_eq_true rfl) rfl ?_
      exact cutS_endA (by kernel_rfl) ⟨rfl, rfl, rfl, rfl, rfl, trivial⟩ ⟨rfl, rfl, trivial⟩
     exact raall_nil
    refine Zd (Ze (Ze (Zb (Zg (Zi rfl Tryd.f44' rfl (by decide) rfl) rfl (Zg (Zl rfl Tryd.k3 rfl rfl rfl (vs := [_]) rfl rfl rfl) rfl (Zg (Zi rfl Tryd.f44' rfl (by decide) rfl) rfl (Zg (Zl rfl Tryd.k3 rfl rfl rfl (vs := [_]) rfl rfl rfl) rfl ?_)))))))
    refine Zg (y_neq rfl rfl rfl) rfl (ym rfl rfl ?_)
    refine Zar 33 rfl (fun hg7_5 => ?_) (fun hg7_5 => ?_)
    ·
     iterate 5 refine Zaf rfl rfl rfl rfl ?_
     refine Zg (Zo rfl rfl rfl) rfl (ym rfl rfl ?_)
     iterate 5 refine Zaf rfl rfl rfl rfl ?_
     refine Zg (Zo rfl rfl rfl) rfl (ym rfl rfl ?_)
     iterate 5 refine Zaf rfl rfl rfl rfl ?_
     refine Zg (Zo rfl rfl rfl) rfl (ym rfl rfl ?_)
     iterate 6 refine Zaf rfl rfl rfl rfl ?_
     refine Zg (Zo rfl rfl rfl) rfl (ym rfl rfl ?_)
     iterate 6 refine Zaf rfl rfl rfl rfl ?_
     refine Zg (Zo rfl rfl rfl) rfl (ym rfl rfl ?_)
     iterate 7 refine Zaf rfl rfl rfl rfl ?_
     refine Zg (Zo rfl rfl rfl) rfl (ym rfl rfl ?_)
     iterate 6 refine Zaf rfl rfl rfl rfl ?_
     refine Zg (Zo rfl rfl rfl) rfl (Zf (ρ' := [(0, _), (1, _), (5, _), (6, _), (7, _), (86, _)]) ⟨rfl, rfl, rfl, rfl, rfl, rfl, trivial⟩ ?_)
     refine Zd (Zax rfl (rfl) (Ze (Zb (ya rfl rfl (Zf (ρ' := [(4, _)]) ⟨rfl, trivial⟩ ?_)))))
     refine Zd (Zaj (Zm (Zaa (Zm (Zm (Zaa (Zm ?_)))))))
     refine Zbf (.tmp rfl) ?_
     first
     | exact SayEq.no fun e => of_decide_eq_true hg7_5 (hxy e).1
     | exact SayEq.no fun e => of_decide_eq_true hg7_12 (hxy e).2.1
     | exact SayEq.no fun e => of_decide_eq_true hg7_19 (hxy e).2.2.1
     | exact SayEq.no fun e => of_decide_eq_true hg7_26 (hxy e).2.2.2.1
     | exact SayEq.no fun e => by rw [hB1.2 (hxy e).2.2.2.2.1] at hg7_34; exact absurd hg7_34 (by decide)
     | exact SayEq.no fun e => by rw [hB2.2 (hxy e).2.2.2.2.2.1] at hg7_42; exact absurd hg7_42 (by decide)
     | exact SayEq.no fun e => of_decide_eq_true hg7_51 (by rw [(hxy e).2.2.2.2.2.2.1])
     | exact SayEq.no fun e => by rw [hB3.2 (hxy e).2.2.2.2.2.2.2] at hb7; exact absurd hb7 (by decide)
     | exact SayEq.no fun e => h12 (by rw [(hxy e).2.2.2.2.2.2.1, hw'] at hw; exact (Option.some.inj hw).symm)
     | exact SayEq.yes (all_get hl fun k hk => hsm k (by omega))
    ·
     refine Zp rfl rfl (Zg (Zi rfl Tryd.f44' rfl (by decide) rfl) rfl (Zp rfl rfl (Zg (Zl rfl Tryd.k9 rfl rfl rfl (vs := [_]) rfl rfl rfl) rfl (Zp rfl rfl (Zg (Zi rfl Tryd.f44' rfl (by decide) rfl) rfl (Zp rfl rfl (Zg (Zl rfl Tryd.k9 rfl rfl rfl (vs := [_]) rfl rfl rfl) rfl ?_)))))))
     refine Zp rfl rfl (Zg (Zbp rfl rfl rfl) rfl (Zg (Zad rfl rfl rfl) rfl (ym rfl rfl ?_)))
     refine Zar 40 rfl (fun hg7_12 => ?_) (fun hg7_12 => ?_)
     ·
      iterate 5 refine Zaf rfl rfl rfl rfl ?_
      refine Zg (Zo rfl rfl rfl) rfl (ym rfl rfl ?_)
      iterate 5 refine Zaf rfl rfl rfl rfl ?_
      refine Zg (Zo rfl rfl rfl) rfl (ym rfl rfl ?_)
      iterate 6 refine Zaf rfl rfl rfl rfl ?_
      refine Zg (Zo rfl rfl rfl) rfl (ym rfl rfl ?_)
      iterate 6 refine Zaf rfl rfl rfl rfl ?_
      refine Zg (Zo rfl rfl rfl) rfl (ym rfl rfl ?_)
      iterate 7 refine Zaf rfl rfl rfl rfl ?_
      refine Zg (Zo rfl rfl rfl) rfl (ym rfl rfl ?_)
      iterate 6 refine Zaf rfl rfl rfl rfl ?_
      refine Zg (Zo rfl rfl rfl) rfl (Zf (ρ' := [(0, _), (1, _), (5, _), (6, _), (7, _), (86, _)]) ⟨rfl, rfl, rfl, rfl, rfl, rfl, trivial⟩ ?_)
      refine Zd (Zax rfl (rfl) (Ze (Zb (ya rfl rfl (Zf (ρ' := [(4, _)]) ⟨rfl, trivial⟩ ?_)))))
      refine Zd (Zaj (Zm (Zaa (Zm (Zm (Zaa (Zm ?_)))))))
      refine Zbf (.tmp rfl) ?_
      first
      | exact SayEq.no fun e => of_decide_eq_true hg7_5 (hxy e).1
      | exact SayEq.no fun e => of_decide_eq_true hg7_12 (hxy e).2.1
      | exact SayEq.no fun e => of_decide_eq_true hg7_19 (hxy e).2.2.1
      | exact SayEq.no fun e => of_decide_eq_true hg7_26 (hxy e).2.2.2.1
      | exact SayEq.no fun e => by rw [hB1.2 (hxy e).2.2.2.2.1] at hg7_34; exact absurd hg7_34 (by decide)
      | exact SayEq.no fun e => by rw [hB2.2 (hxy e).2.2.2.2.2.1] at hg7_42; exact absurd hg7_42 (by decide)
      | exact SayEq.no fun e => of_decide_eq_true hg7_51 (by rw [(hxy e).2.2.2.2.2.2.1])
      | exact SayEq.no fun e => by rw [hB3.2 (hxy e).2.2.2.2.2.2.2] at hb7; exact absurd hb7 (by decide)
      | exact SayEq.no fun e => h12 (by rw [(hxy e).2.2.2.2.2.2.1, hw'] at hw; exact (Option.some.inj hw).symm)
      | exact SayEq.yes (all_get hl fun k hk => hsm k (by omega))
     ·
      refine Zp rfl rfl (Zg (Zi rfl Tryd.f44' rfl (by decide) rfl) rfl (Zp rfl rfl (Zg (Zl rfl Tryd.k9 rfl rfl rfl (vs := [_]) rfl rfl rfl) rfl (Zp rfl rfl (Zg (Zi rfl Tryd.f44' rfl (by decide) rfl) rfl (Zp rfl rfl (Zg (Zl rfl Tryd.k9 rfl rfl rfl (vs := [_]) rfl rfl rfl) rfl ?_)))))))
      refine Zp rfl rfl (Zg (Zbp rfl rfl rfl) rfl (Zg (Zad rfl rfl rfl) rfl (ym rfl rfl ?_)))
      refine Zar 47 rfl (fun hg7_19 => ?_) (fun hg7_19 => ?_)
      ·
       iterate 5 refine Zaf rfl rfl rfl rfl ?_
       refine Zg (Zo rfl rfl rfl) rfl (ym rfl rfl ?_)
       iterate 6 refine Zaf rfl rfl rfl rfl ?_
       refine Zg (Zo rfl rfl rfl) rfl (ym rfl rfl ?_)
       iterate 6 refine Zaf rfl rfl rfl rfl ?_
       refine Zg (Zo rfl rfl rfl) rfl (ym rfl rfl ?_)
       iterate 7 refine Zaf rfl rfl rfl rfl ?_
       refine Zg (Zo rfl rfl rfl) rfl (ym rfl rfl ?_)
       iterate 6 refine Zaf rfl rfl rfl rfl ?_
       refine Zg (Zo rfl rfl rfl) rfl (Zf (ρ' := [(0, _), (1, _), (5, _), (6, _), (7, _), (86, _)]) ⟨rfl, rfl, rfl, rfl, rfl, rfl, trivial⟩ ?_)
       refine Zd (Zax rfl (rfl) (Ze (Zb (ya rfl rfl (Zf (ρ' := [(4, _)]) ⟨rfl, trivial⟩ ?_)))))
       refine Zd (Zaj (Zm (Zaa (Zm (Zm (Zaa (Zm ?_)))))))
       refine Zbf (.tmp rfl) ?_
       first
       | exact SayEq.no fun e => of_decide_eq_true hg7_5 (hxy e).1
       | exact SayEq.no fun e => of_decide_eq_true hg7_12 (hxy e).2.1
       | exact SayEq.no fun e => of_decide_eq_true hg7_19 (hxy e).2.2.1
       | exact SayEq.no fun e => of_decide_eq_true hg7_26 (hxy e).2.2.2.1
       | exact SayEq.no fun e => by rw [hB1.2 (hxy e).2.2.2.2.1] at hg7_34; exact absurd hg7_34 (by decide)
       | exact SayEq.no fun e => by rw [hB2.2 (hxy e).2.2.2.2.2.1] at hg7_42; exact absurd hg7_42 (by decide)
       | exact SayEq.no fun e => of_decide_eq_true hg7_51 (by rw [(hxy e).2.2.2.2.2.2.1])
       | exact SayEq.no fun e => by rw [hB3.2 (hxy e).2.2.2.2.2.2.2] at hb7; exact absurd hb7 (by decide)
       | exact SayEq.no fun e => h12 (by rw [(hxy e).2.2.2.2.2.2.1, hw'] at hw; exact (Option.some.inj hw).symm)
       | exact SayEq.yes (all_get hl fun k hk => hsm k (by omega))
      ·
       refine Zp rfl rfl (Zg (Zi rfl Tryd.f44' rfl (by decide) rfl) rfl (Zp rfl rfl (Zg (Zl rfl Tryd.k9 rfl rfl rfl (vs := [_]) rfl rfl rfl) rfl (Zp rfl rfl (Zg (Zi rfl Tryd.f44' rfl (by decide) rfl) rfl (Zp rfl rfl (Zg (Zl rfl Tryd.k9 rfl rfl rfl (vs := [_]) rfl rfl rfl) rfl ?_)))))))
       refine Zp rfl rfl (Zg (Zbp rfl rfl rfl) rfl (Zg (Zad rfl rfl rfl) rfl (ym rfl rfl ?_)))
       refine Zar 54 rfl (fun hg7_26 => ?_) (fun hg7_26 => ?_)
       ·
        iterate 6 refine Zaf rfl rfl rfl rfl ?_
        refine Zg (Zo rfl rfl rfl) rfl (ym rfl rfl ?_)
        iterate 6 refine Zaf rfl rfl rfl rfl ?_
        refine Zg (Zo rfl rfl rfl) rfl (ym rfl rfl ?_)
        iterate 7 refine Zaf rfl rfl rfl rfl ?_
        refine Zg (Zo rfl rfl rfl) rfl (ym rfl rfl ?_)
        iterate 6 refine Zaf rfl rfl rfl rfl ?_
        refine Zg (Zo rfl rfl rfl) rfl (Zf (ρ' := [(0, _), (1, _), (5, _), (6, _), (7, _), (86, _)]) ⟨rfl, rfl, rfl, rfl, rfl, rfl, trivial⟩ ?_)
        refine Zd (Zax rfl (rfl) (Ze (Zb (ya rfl rfl (Zf (ρ' := [(4, _)]) ⟨rfl, trivial⟩ ?_)))))
        refine Zd (Zaj (Zm (Zaa (Zm (Zm (Zaa (Zm ?_)))))))
        refine Zbf (.tmp rfl) ?_
        first
        | exact SayEq.no fun e => of_decide_eq_true hg7_5 (hxy e).1
        | exact SayEq.no fun e => of_decide_eq_true hg7_12 (hxy e).2.1
        | exact SayEq.no fun e => of_decide_eq_true hg7_19 (hxy e).2.2.1
        | exact SayEq.no fun e => of_decide_eq_true hg7_26 (hxy e).2.2.2.1
        | exact SayEq.no fun e => by rw [hB1.2 (hxy e).2.2.2.2.1] at hg7_34; exact absurd hg7_34 (by decide)
        | exact SayEq.no fun e => by rw [hB2.2 (hxy e).2.2.2.2.2.1] at hg7_42; exact absurd hg7_42 (by decide)
        | exact SayEq.no fun e => of_decide_eq_true hg7_51 (by rw [(hxy e).2.2.2.2.2.2.1])
        | exact SayEq.no fun e => by rw [hB3.2 (hxy e).2.2.2.2.2.2.2] at hb7; exact absurd hb7 (by decide)
        | exact SayEq.no fun e => h12 (by rw [(hxy e).2.2.2.2.2.2.1, hw'] at hw; exact (Option.some.inj hw).symm)
        | exact SayEq.yes (all_get hl fun k hk => hsm k (by omega))
       ·
        refine Zp rfl rfl (Zg (Zi rfl Tryd.f44' rfl (by decide) rfl) rfl (Zp rfl rfl (Zg (Zl rfl Tryd.k37 rfl rfl rfl (vs := [_, _, _]) rfl rfl rfl) rfl (Zp rfl rfl (Zg (Zi rfl Tryd.f44' rfl (by decide) rfl) rfl (Zp rfl rfl (Zg (Zl rfl Tryd.k37 rfl rfl rfl (vs := [_, _, _]) rfl rfl rfl) rfl ?_)))))))
        refine Zp rfl rfl (Zt rfl rfl ?_)
        refine Zac (caps := []) trivial rfl rfl Tryd.c46 rfl (FnP.mono (attrs_dec a a' _ _ _ _ okc okp u s1 s2 s1' s2') ?_)
        rintro v u1 hle1 ⟨b1, rfl, hB1⟩
        refine Zp rfl rfl (Zg (y_not rfl rfl) rfl (Zg (Zad rfl rfl rfl) rfl (ym rfl rfl ?_)))
        refine Zar 62 rfl (fun hg7_34 => ?_) (fun hg7_34 => ?_)
        ·
         iterate 6 refine Zaf rfl rfl rfl rfl ?_
         refine Zg (Zo rfl rfl rfl) rfl (ym rfl rfl ?_)
         iterate 7 refine Zaf rfl rfl rfl rfl ?_
         refine Zg (Zo rfl rfl rfl) rfl (ym rfl rfl ?_)
         iterate 6 refine Zaf rfl rfl rfl rfl ?_
         refine Zg (Zo rfl rfl rfl) rfl (Zf (ρ' := [(0, _), (1, _), (5, _), (6, _), (7, _), (86, _)]) ⟨rfl, rfl, rfl, rfl, rfl, rfl, trivial⟩ ?_)
         refine Zd (Zax rfl (rfl) (Ze (Zb (ya rfl rfl (Zf (ρ' := [(4, _)]) ⟨rfl, trivial⟩ ?_)))))
         refine Zd (Zaj (Zm (Zaa (Zm (Zm (Zaa (Zm ?_)))))))
         refine Zbf (.tmp rfl) ?_
         first
         | exact SayEq.no fun e => of_decide_eq_true hg7_5 (hxy e).1
         | exact SayEq.no fun e => of_decide_eq_true hg7_12 (hxy e).2.1
         | exact SayEq.no fun e => of_decide_eq_true hg7_19 (hxy e).2.2.1
         | exact SayEq.no fun e => of_decide_eq_true hg7_26 (hxy e).2.2.2.1
         | exact SayEq.no fun e => by rw [hB1.2 (hxy e).2.2.2.2.1] at hg7_34; exact absurd hg7_34 (by decide)
         | exact SayEq.no fun e => by rw [hB2.2 (hxy e).2.2.2.2.2.1] at hg7_42; exact absurd hg7_42 (by decide)
         | exact SayEq.no fun e => of_decide_eq_true hg7_51 (by rw [(hxy e).2.2.2.2.2.2.1])
         | exact SayEq.no fun e => by rw [hB3.2 (hxy e).2.2.2.2.2.2.2] at hb7; exact absurd hb7 (by decide)
         | exact SayEq.no fun e => h12 (by rw [(hxy e).2.2.2.2.2.2.1, hw'] at hw; exact (Option.some.inj hw).symm)
         | exact SayEq.yes (all_get hl fun k hk => hsm k (by omega))
        ·
         refine Zp rfl rfl (Zg (Zi rfl Tryd.f44' rfl (by decide) rfl) rfl (Zp rfl rfl (Zg (Zl rfl Tryd.k22 rfl rfl rfl (vs := [_]) rfl rfl rfl) rfl (Zp rfl rfl (Zg (Zi rfl Tryd.f44' rfl (by decide) rfl) rfl (Zp rfl rfl (Zg (Zl rfl Tryd.k22 rfl rfl rfl (vs := [_]) rfl rfl rfl) rfl ?_)))))))
         refine Zp rfl rfl (Zt rfl rfl ?_)
         refine Zac (caps := []) trivial rfl rfl Tryd.c61 rfl (FnP.mono (texts_dec _ _ _ _ oka u s3 s3') ?_)
         rintro v u1 hle1 ⟨b2, rfl, hB2⟩
         refine Zp rfl rfl (Zg (y_not rfl rfl) rfl (Zg (Zad rfl rfl rfl) rfl (ym rfl rfl ?_)))
         refine Zar 70 rfl (fun hg7_42 => ?_) (fun hg7_42 => ?_)
         ·
          iterate 7 refine Zaf rfl rfl rfl rfl ?_
          refine Zg (Zo rfl rfl rfl) rfl (ym rfl rfl ?_)
          iterate 6 refine Zaf rfl rfl rfl rfl ?_
          refine Zg (Zo rfl rfl rfl) rfl (Zf (ρ' := [(0, _), (1, _), (5, _), (6, _), (7, _), (86, _)]) ⟨rfl, rfl, rfl, rfl, rfl, rfl, trivial⟩ ?_)
          refine Zd (Zax rfl (rfl) (Ze (Zb (ya rfl rfl (Zf (ρ' := [(4, _)]) ⟨rfl, trivial⟩ ?_)))))
          refine Zd (Zaj (Zm (Zaa (Zm (Zm (Zaa (Zm ?_)))))))
          refine Zbf (.tmp rfl) ?_
          first
          | exact SayEq.no fun e => of_decide_eq_true hg7_5 (hxy e).1
          | exact SayEq.no fun e => of_decide_eq_true hg7_12 (hxy e).2.1
          | exact SayEq.no fun e => of_decide_eq_true hg7_19 (hxy e).2.2.1
          | exact SayEq.no fun e => of_decide_eq_true hg7_26 (hxy e).2.2.2.1
          | exact SayEq.no fun e => by rw [hB1.2 (hxy e).2.2.2.2.1] at hg7_34; exact absurd hg7_34 (by decide)
          | exact SayEq.no fun e => by rw [hB2.2 (hxy e).2.2.2.2.2.1] at hg7_42; exact absurd hg7_42 (by decide)
          | exact SayEq.no fun e => of_decide_eq_true hg7_51 (by rw [(hxy e).2.2.2.2.2.2.1])
          | exact SayEq.no fun e => by rw [hB3.2 (hxy e).2.2.2.2.2.2.2] at hb7; exact absurd hb7 (by decide)
          | exact SayEq.no fun e => h12 (by rw [(hxy e).2.2.2.2.2.2.1, hw'] at hw; exact (Option.some.inj hw).symm)
          | exact SayEq.yes (all_get hl fun k hk => hsm k (by omega))
         ·
          refine Zp rfl rfl (Zg (Zi rfl Tryd.f44' rfl (by decide) rfl) rfl (Zp rfl rfl (Zg (Zl rfl Tryd.k42 rfl rfl rfl (vs := [_]) rfl rfl rfl) rfl (Zp rfl rfl (Zg (Zx rfl rfl Tryd.s42 rfl) rfl (Zp rfl rfl (Zg (Zi rfl Tryd.f44' rfl (by decide) rfl) rfl ?_)))))))
          refine Zp rfl rfl (Zg (Zl rfl Tryd.k42 rfl rfl rfl (vs := [_]) rfl rfl rfl) rfl (Zp rfl rfl (Zg (Zx rfl rfl Tryd.s42 rfl) rfl (Zp rfl rfl (Zg (y_neq rfl rfl rfl) rfl (Zg (Zad rfl rfl rfl) rfl (ym rfl rfl ?_)))))))
          refine Zar 79 rfl (fun hg7_51 => ?_) (fun hg7_51 => ?_)
          ·
           iterate 6 refine Zaf rfl rfl rfl rfl ?_
           refine Zg (Zo rfl rfl rfl) rfl (Zf (ρ' := [(0, _), (1, _), (5, _), (6, _), (7, _), (86, _)]) ⟨rfl, rfl, rfl, rfl, rfl, rfl, trivial⟩ ?_)
           refine Zd (Zax rfl (rfl) (Ze (Zb (ya rfl rfl (Zf (ρ' := [(4, _)]) ⟨rfl, trivial⟩ ?_)))))
           refine Zd (Zaj (Zm (Zaa (Zm (Zm (Zaa (Zm ?_)))))))
           refine Zbf (.tmp rfl) ?_
           first
           | exact SayEq.no fun e => of_decide_eq_true hg7_5 (hxy e).1
           | exact SayEq.no fun e => of_decide_eq_true hg7_12 (hxy e).2.1
           | exact SayEq.no fun e => of_decide_eq_true hg7_19 (hxy e).2.2.1
           | exact SayEq.no fun e => of_decide_eq_true hg7_26 (hxy e).2.2.2.1
           | exact SayEq.no fun e => by rw [hB1.2 (hxy e).2.2.2.2.1] at hg7_34; exact absurd hg7_34 (by decide)
           | exact SayEq.no fun e => by rw [hB2.2 (hxy e).2.2.2.2.2.1] at hg7_42; exact absurd hg7_42 (by decide)
           | exact SayEq.no fun e => of_decide_eq_true hg7_51 (by rw [(hxy e).2.2.2.2.2.2.1])
           | exact SayEq.no fun e => by rw [hB3.2 (hxy e).2.2.2.2.2.2.2] at hb7; exact absurd hb7 (by decide)
           | exact SayEq.no fun e => h12 (by rw [(hxy e).2.2.2.2.2.2.1, hw'] at hw; exact (Option.some.inj hw).symm)
           | exact SayEq.yes (all_get hl fun k hk => hsm k (by omega))
          ·
           refine Zp rfl rfl (Zg (Zi rfl Tryd.f44' rfl (by decide) rfl) rfl (Zp rfl rfl (Zg (Zl rfl Tryd.k35 rfl rfl rfl (vs := [_]) rfl rfl rfl) rfl (Zp rfl rfl (Zg (Zi rfl Tryd.f44' rfl (by decide) rfl) rfl (Zp rfl rfl (Zg (Zl rfl Tryd.k35 rfl rfl rfl (vs := [_]) rfl rfl rfl) rfl ?_)))))))
           refine Zp rfl rfl (Zt rfl rfl ?_)
           refine Zac (caps := []) trivial rfl rfl Tryd.c47 rfl (FnP.mono (ih _ (by omega : szI kids < n) _ _ kids kids' (Nat.le_refl _) okk u s5 s5') ?_)
           rintro v u1 hle1 ⟨b3, rfl, hB3⟩
           refine Zp rfl rfl (Zg (y_not rfl rfl) rfl (Zg (Zad rfl rfl rfl) rfl (Zf (ρ' := [(0, _), (1, _), (5, _), (6, _), (7, _), (86, _)]) ⟨rfl, rfl, rfl, rfl, rfl, rfl, trivial⟩ ?_)))
           refine Zd ?_
           refine Zw rfl (fun hb7 => ?_) (fun hb7 => ?_)
           ·
            refine Ze (Zb (ya rfl rfl (Zf (ρ' := [(4, _)]) ⟨rfl, trivial⟩ ?_)))
            refine Zd (Zaj (Zm (Zaa (Zm (Zm (Zaa (Zm ?_)))))))
            refine Zbf (.tmp rfl) ?_
            first
            | exact SayEq.no fun e => of_decide_eq_true hg7_5 (hxy e).1
            | exact SayEq.no fun e => of_decide_eq_true hg7_12 (hxy e).2.1
            | exact SayEq.no fun e => of_decide_eq_true hg7_19 (hxy e).2.2.1
            | exact SayEq.no fun e => of_decide_eq_true hg7_26 (hxy e).2.2.2.1
            | exact SayEq.no fun e => by rw [hB1.2 (hxy e).2.2.2.2.1] at hg7_34; exact absurd hg7_34 (by decide)
            | exact SayEq.no fun e => by rw [hB2.2 (hxy e).2.2.2.2.2.1] at hg7_42; exact absurd hg7_42 (by decide)
            | exact SayEq.no fun e => of_decide_eq_true hg7_51 (by rw [(hxy e).2.2.2.2.2.2.1])
            | exact SayEq.no fun e => by rw [hB3.2 (hxy e).2.2.2.2.2.2.2] at hb7; exact absurd hb7 (by decide)
            | exact SayEq.no fun e => h12 (by rw [(hxy e).2.2.2.2.2.2.1, hw'] at hw; exact (Option.some.inj hw).symm)
            | exact SayEq.yes (all_get hl fun k hk => hsm k (by omega))
           ·
            refine Zv (Zd (Ze (Zb (ya rfl rfl (Zf (ρ' := [(0, _), (1, _), (5, _), (6, _), (7, _), (8, _)]) ⟨rfl, rfl, rfl, rfl, rfl, rfl, trivial⟩ ?_)))))
            refine Zd (Zq ?_)
            refine Zaq (fun m_0 ρ σ u' => ∃ j : Nat, j + m_0 = cites.length ∧ VLe u u' ∧ σ = [(6, (none, .box (inlV k t d ti a.id vc vp va (.slice adt cites.length capt) vk))), (7, (none, .box (inlV k' t' d' ti' a'.id vc' vp' va' (.slice adt' cites'.length capt') vk')))] ∧ ρ = [(0, .v (.slice ad xs.length cap)), (1, .v (.slice ad2 ys.length cap2)), (5, .v (.int .i64 i)), (6, .p 6 0), (7, .p 7 0), (8, .v (.int .i64 j))] ∧ (u = u' ∧ ∀ q, q < j → cites[q]? = cites'[q]?)) (cites.length) ?_ ?_
            ·
             refine ⟨[(0, _), (1, _), (5, _), (6, _), (7, _), (8, _)], [(6, _), (7, _)], ⟨rfl, rfl, rfl, rfl, rfl, rfl, trivial⟩, ⟨rfl, rfl, trivial⟩, 0, by omega, VLe.refl _, (by first | rfl | simp), (by first | rfl | (simp only [List.cons.injEq, Prod.mk.injEq, SV.v.injEq, Value.int.injEq, true_and, and_true]; omega) | simp), ?_⟩
             exact ⟨rfl, fun q hq => by omega⟩
            ·
             rintro mj ρ σ u' ⟨j, hi10, hle10, rfl, rfl, ⟨rfl, hsc⟩⟩
             refine Ze (Ze (Zb (ym rfl rfl (Zg (Zi rfl Tryd.f44' rfl (by decide) rfl) rfl (Zg (Zl rfl Tryd.k42 rfl rfl rfl (vs := [_]) rfl rfl rfl) rfl (Zg (Zx rfl rfl Tryd.s42 rfl) rfl (Zg (Zav rfl rfl rfl) rfl (Zf (ρ' := [(0, _), (1, _), (5, _), (6, _), (7, _), (8, _), (91, _)]) ⟨rfl, rfl, rfl, rfl, rfl, rfl, rfl, trivial⟩ ?_))))))))
             refine Zd ?_
             refine Zw rfl (fun hb10 => ?_) (fun hb10 => ?_)
             ·
              have hlen : cites.length = cites'.length := by have := Decidable.of_not_not (of_decide_eq_false hg7_51); omega
              have hltj : j < cites.length := by have := of_decide_eq_true hb10; omega
              obtain ⟨⟨w1, w2, w3, w4⟩, hw⟩ : ∃ w, cites[j]? = some w := ⟨_, List.getElem?_eq_getElem hltj⟩
              obtain ⟨⟨w1', w2', w3', w4'⟩, hw'⟩ : ∃ w, cites'[j]? = some w := ⟨_, List.getElem?_eq_getElem (by omega)⟩
              have hcc : cut (citesC cites) (j * 4) 4 = [str w1, str w2, str w3, .bool w4] := cut_citesC hw
              have hcc' : cut (citesC cites') (j * 4) 4 = [str w1', str w2', str w3', .bool w4'] := cut_citesC hw'
              refine Zv (Zd (Ze (Zq (Ze ?_))))
              refine Zbb Tryd.mixed rfl [(6, _), (7, _)] ⟨rfl, rfl, trivial⟩ ?_
              refine Zak 0 rfl (by kernel_rfl) (Za (Zc (Za (Za (Zc (Zc (Za (Za (Zc (Za (Zn))))))))))) (Zi rfl Tryd.f44' rfl (by decide) rfl) rfl ?_
              refine Zak 1 rfl (by kernel_rfl) (Za (Zc (Za (Za (Zc (Zc (Za (Za (Zc (Za (Zn))))))))))) (Zl rfl Tryd.k42 rfl rfl rfl (vs := [_]) rfl rfl rfl) rfl ?_
              refine Zak 2 rfl (by kernel_rfl) (Za (Zc (Za (Za (Zc (Zc (Za (Za (Zc (Za (Zn))))))))))) (Zae rfl rfl) rfl ?_
              refine Zak 3 rfl (by kernel_rfl) (Za (Zc (Za (Za (Zc (Zc (Za (Za (Zc (Za (Zn))))))))))) (Zs rfl Tryd.s42 rfl rfl h4 rfl (by omega)) rfl ?_
              refine Zak 4 rfl (by kernel_rfl) (Za (Zc (Za (Za (Zc (Zc (Za (Za (Zc (Za (Zn))))))))))) (Zr rfl Tryd.k106 rfl h4 (by omega) hcc (vs := [_, _, _, _]) rfl rfl rfl rfl) rfl ?_
              refine Zak 5 rfl (by kernel_rfl) (Za (Zc (Za (Za (Zc (Zc (Za (Za (Zc (Za (Zn))))))))))) (Zi rfl Tryd.f44' rfl (by decide) rfl) rfl ?_
              refine Zak 6 rfl (by kernel_rfl) (Za (Zc (Za (Za (Zc (Zc (Za (Za (Zc (Za (Zn))))))))))) (Zl rfl Tryd.k42 rfl rfl rfl (vs := [_]) rfl rfl rfl) rfl ?_
              refine Zak 7 rfl (by kernel_rfl) (Za (Zc (Za (Za (Zc (Zc (Za (Za (Zc (Za (Zn))))))))))) (Zae rfl rfl) rfl ?_
              refine Zak 8 rfl (by kernel_rfl) (Za (Zc (Za (Za (Zc (Zc (Za (Za (Zc (Za (Zn))))))))))) (Zs rfl Tryd.s42 rfl rfl h4' rfl (by omega)) rfl ?_
              refine Zak 9 rfl (by kernel_rfl) (Za (Zc (Za (Za (Zc (Zc (Za (Za (Zc (Za (Zn))))))))))) (Zr rfl Tryd.k106 rfl h4' (by omega) hcc' (vs := [_, _, _, _]) rfl rfl rfl rfl) rfl ?_
              refine Zak 10 rfl (by kernel_rfl) (Za (Zc (Za (Za (Zc (Zc (Za (Za (Zc (Za (Zn))))))))))) (y_neq_flat Tryd.q106 rfl rfl rfl rfl rfl) rfl ?_
              refine Zbn (by kernel_rfl) (ρ' := [(0, _), (1, _), (5, _), (6, _), (7, _), (8, _), (104, _)]) ⟨rfl, rfl, rfl, rfl, rfl, rfl, rfl, trivial⟩ ?_
              refine Zd ?_
              refine Zw rfl (fun hb12 => ?_) (fun hb12 => ?_)
              ·
               have h12 : ¬ (⟨w1, w2, w3, w4⟩ : DCite) = ⟨w1', w2', w3', w4'⟩ := fun e => by
                have h := (cmp_ci w1 w2 w3 w4 w1' w2' w3' w4').2 e
                have h' : (!cmpB [(0, .s), (1, .s), (2, .s), (3, .b)] [str w1, str w2, str w3, .bool w4] [str w1', str w2', str w3', .bool w4']) = true := hb12
                rw [h] at h'; cases h'
               refine Ze (Zb (ya rfl rfl (Zf (ρ' := [(4, _)]) ⟨rfl, trivial⟩ ?_)))
               refine Zd (Zaj (Zaa (Zm (Zm (Zaa (Zaa (Zm ?_)))))))
               refine Zm (Zaa (Zm (Zbf (.tmp rfl) ?_)))
               first
               | exact SayEq.no fun e => of_decide_eq_true hg7_5 (hxy e).1
               | exact SayEq.no fun e => of_decide_eq_true hg7_12 (hxy e).2.1
               | exact SayEq.no fun e => of_decide_eq_true hg7_19 (hxy e).2.2.1
               | exact SayEq.no fun e => of_decide_eq_true hg7_26 (hxy e).2.2.2.1
               | exact SayEq.no fun e => by rw [hB1.2 (hxy e).2.2.2.2.1] at hg7_34; exact absurd hg7_34 (by decide)
               | exact SayEq.no fun e => by rw [hB2.2 (hxy e).2.2.2.2.2.1] at hg7_42; exact absurd hg7_42 (by decide)
               | exact SayEq.no fun e => of_decide_eq_true hg7_51 (by rw [(hxy e).2.2.2.2.2.2.1])
               | exact SayEq.no fun e => by rw [hB3.2 (hxy e).2.2.2.2.2.2.2] at hb7; exact absurd hb7 (by decide)
               | exact SayEq.no fun e => h12 (by rw [(hxy e).2.2.2.2.2.2.1, hw'] at hw; exact (Option.some.inj hw).symm)
               | exact SayEq.yes (all_get hl fun k hk => hsm k (by omega))
              ·
               have h12 : (⟨w1, w2, w3, w4⟩ : DCite) = ⟨w1', w2', w3', w4'⟩ := (cmp_ci w1 w2 w3 w4 w1' w2' w3' w4').1 (by
                have h' : (!cmpB [(0, .s), (1, .s), (2, .s), (3, .b)] [str w1, str w2, str w3, .bool w4] [str w1', str w2', str w3', .bool w4']) = false := hb12
                revert h'
                cases cmpB [(0, .s), (1, .s), (2, .s), (3, .b)] [str w1, str w2, str w3, .bool w4] [str w1', str w2', str w3', .bool w4'] <;> simp)
               refine Zv (Zah (Zd (Zb (ym rfl rfl (Zg (Zap rfl rfl rfl (Zk (by omega))) rfl ?_)))))
               refine ya rfl rfl (Zf (ρ' := [(0, _), (1, _), (5, _), (6, _), (7, _), (8, _)]) ⟨rfl, rfl, rfl, rfl, rfl, rfl, trivial⟩ ?_)
               refine Zab ?_
               refine ⟨mj - 1, [(0, _), (1, _), (5, _), (6, _), (7, _), (8, _)], [(6, _), (7, _)], by omega, ⟨rfl, rfl, rfl, rfl, rfl, rfl, trivial⟩, ⟨rfl, rfl, trivial⟩, j + 1, by omega, hle10, (by first | rfl | simp), (by first | rfl | (simp only [List.cons.injEq, Prod.mk.injEq, SV.v.injEq, Value.int.injEq, true_and, and_true]; omega) | simp), ?_⟩
               exact ⟨rfl, get_up hsc (by rw [hw, hw', h12])⟩
             ·
              have hlen : cites.length = cites'.length := by have := Decidable.of_not_not (of_decide_eq_false hg7_51); omega
              have h10n := of_decide_eq_false hb10
              refine Zan ?_
              refine Zh (Zh ?_)
              refine Zu ?_
              refine Zah (Zd (Zb (ym rfl rfl (Zg (Zap rfl rfl rfl (Zk (by omega))) rfl ?_))))
              refine ya rfl rfl (Zf (ρ' := [(0, _), (1, _), (5, _)]) ⟨rfl, rfl, rfl, trivial⟩ ?_)
              refine Zab ?_
              refine ⟨m - 1, [(0, _), (1, _), (5, _)], [], by omega, ⟨rfl, rfl, rfl, trivial⟩, trivial, i + 1, by omega, hle4, (by first | rfl | simp), (by first | rfl | (simp only [List.cons.injEq, Prod.mk.injEq, SV.v.injEq, Value.int.injEq, true_and, and_true]; omega) | simp), ?_⟩
              refine ⟨rfl, get_up hsm ?_⟩
              have e1 : k = k' := Decidable.of_not_not (of_decide_eq_false hg7_5)
              have e2 : t = t' := Decidable.of_not_not (of_decide_eq_false hg7_12)
              have e3 : d = d' := Decidable.of_not_not (of_decide_eq_false hg7_19)
              have e4 : ti = ti' := Decidable.of_not_not (of_decide_eq_false hg7_26)
              have e5 : a = a' := hB1.1 (by cases b1 <;> simp_all)
              have e6 : args = args' := hB2.1 (by cases b2 <;> simp_all)
              have e7 : cites = cites' := all_get hlen fun q hq => hsc q (by omega)
              have e8 : kids = kids' := hB3.1 (by cases b3 <;> simp_all)
              rw [hg, hg', e1, e2, e3, e4, e5, e6, e7, e8]
   ·
    have h4n := of_decide_eq_false hb4
    refine Zan ?_
    refine Zh (Zh ?_)
    refine Zu ?_
    refine Zd (Ze (Zb (ya rfl rfl (Zf (ρ' := [(4, _)]) ⟨rfl, trivial⟩ ?_))))
    refine Zd (Zaj (Zbf (.tmp rfl) ?_))
    first
    | exact SayEq.no fun e => of_decide_eq_true hg7_5 (hxy e).1
    | exact SayEq.no fun e => of_decide_eq_true hg7_12 (hxy e).2.1
    | exact SayEq.no fun e => of_decide_eq_true hg7_19 (hxy e).2.2.1
    | exact SayEq.no fun e => of_decide_eq_true hg7_26 (hxy e).2.2.2.1
    | exact SayEq.no fun e => by rw [hB1.2 (hxy e).2.2.2.2.1] at hg7_34; exact absurd hg7_34 (by decide)
    | exact SayEq.no fun e => by rw [hB2.2 (hxy e).2.2.2.2.2.1] at hg7_42; exact absurd hg7_42 (by decide)
    | exact SayEq.no fun e => of_decide_eq_true hg7_51 (by rw [(hxy e).2.2.2.2.2.2.1])
    | exact SayEq.no fun e => by rw [hB3.2 (hxy e).2.2.2.2.2.2.2] at hb7; exact absurd hb7 (by decide)
    | exact SayEq.no fun e => h12 (by rw [(hxy e).2.2.2.2.2.2.1, hw'] at hw; exact (Option.some.inj hw).symm)
    | exact SayEq.yes (all_get hl fun k hk => hsm k (by omega))
set_option maxHeartbeats 8000000 in
theorem sameBlocks_dec (n : Nat) : ∀ (va vb : Value) (xs ys : List Blk), szB xs ≤ n → xs.length ≤ 140737488351232 → ∀ u : View, BlkS u va xs → BlkS u vb ys →
  FnP Tryd.prog 34 [va, vb] u fun v _ => SayEq xs ys v := by
 induction n using Nat.strongRecOn with
 | _ n ih =>
 intro va vb xs ys hsz hx u ha hb
 obtain ⟨cs1, ⟨ad, cap, rfl, h1⟩, hc1⟩ := ha
 obtain ⟨cs2, ⟨ad2, cap2, rfl, h2⟩, hc2⟩ := hb
 refine FnP.intro [.tmp 4] Tryd.func34 rfl rfl rfl ?_
 intro w0 D hw0
 refine Ze (Zb (ya rfl rfl (Zf (ρ' := [(0, _), (1, _)]) ⟨rfl, rfl, trivial⟩ ?_)))
 refine Zd (Ze (Ze (Zb (ym rfl rfl (Zg (Zx rfl rfl Tryd.s29 rfl) rfl (ym rfl rfl (Zg (Zx rfl rfl Tryd.s29 rfl) rfl ?_)))))))
 refine Zg (y_neq rfl rfl rfl) rfl (Zf (ρ' := [(0, _), (1, _), (12, _)]) ⟨rfl, rfl, rfl, trivial⟩ ?_)
 refine Zd ?_
 refine Zw rfl (fun hb1 => ?_) (fun hb1 => ?_)
 ·
  have hh1 := of_decide_eq_true hb1
  refine Ze (Zb (ya rfl rfl (Zf (ρ' := [(4, _)]) ⟨rfl, trivial⟩ ?_)))
  refine Zd (Zaj (Zm (Zbf (.tmp rfl) ?_)))
  exact SayEq.no fun e => hh1 (by rw [e])
 ·
  have hl : xs.length = ys.length := by have := Decidable.of_not_not (of_decide_eq_false hb1); omega
  refine Zv (Zd (Ze (Ze (Zb (ya rfl rfl (Zf (ρ' := [(0, _), (1, _), (5, _)]) ⟨rfl, rfl, rfl, trivial⟩ ?_))))))
  refine Zd (Zq ?_)
  refine Zaq (fun m_0 ρ σ u' => ∃ i : Nat, i + m_0 = xs.length ∧ VLe u u' ∧ σ = [] ∧ ρ = [(0, .v (.slice ad xs.length cap)), (1, .v (.slice ad2 ys.length cap2)), (5, .v (.int .i64 i))] ∧ (u = u' ∧ ∀ k, k < i → xs[k]? = ys[k]?)) (xs.length) ?_ ?_
  ·
   refine ⟨[(0, _), (1, _), (5, _)], [], ⟨rfl, rfl, rfl, trivial⟩, trivial, 0, by omega, VLe.refl _, (by first | rfl | simp), (by first | rfl | (simp only [List.cons.injEq, Prod.mk.injEq, SV.v.injEq, Value.int.injEq, true_and, and_true]; omega) | simp), ?_⟩
   exact ⟨rfl, fun k hk => by omega⟩
  ·
   rintro m ρ σ u' ⟨i, hi4, hle4, rfl, rfl, ⟨rfl, hsm⟩⟩
   refine Ze (Ze (Zb (ym rfl rfl (ym rfl rfl (Zg (Zx rfl rfl Tryd.s29 rfl) rfl (Zg (Zav rfl rfl rfl) rfl (Zf (ρ' := [(0, _), (1, _), (5, _), (16, _)]) ⟨rfl, rfl, rfl, rfl, trivial⟩ ?_)))))))
   refine Zd ?_
   refine Zw rfl (fun hb4 => ?_) (fun hb4 => ?_)
   ·
    have hlt : i < xs.length := by have := of_decide_eq_true hb4; omega
    have hlt2 : i < ys.length := by omega
    obtain ⟨k, lv, inf, t, d, ti, a, line, kids, vc, vp, vl, vk, hg, hcut1, s1, s2, s3, s4, hok⟩ := hc1.at hlt
    obtain ⟨k', lv', inf', t', d', ti', a', line', kids', vc', vp', vl', vk', hg', hcut2, s1', s2', s3', s4', _⟩ := hc2.at hlt2
    obtain ⟨_, _, _, _, _, _, ⟨_, ⟨okc, _⟩, ⟨okp, _⟩⟩, okl, okk⟩ := hok
    have oneAll := (hc1.get i _ hg).one
    rw [hcut1] at oneAll
    have oneAll2 := (hc2.get i _ hg').one
    rw [hcut2] at oneAll2
    have hkid := szB_kids hg
    have hxy : xs = ys → k = k' ∧ lv = lv' ∧ inf = inf' ∧ t = t' ∧ d = d' ∧ ti = ti' ∧ a = a' ∧ line = line' ∧ kids = kids' := fun e => by
     rw [e, hg'] at hg
     cases Option.some.inj hg
     exact ⟨rfl, rfl, rfl, rfl, rfl, rfl, rfl, rfl, rfl⟩
    refine Zv (Zd (Ze (Zq (Ze ?_))))
    refine wc_cutS [(6, .p 6 0), (7, .p 7 0)] [(6, (none, .box (blkV k lv inf t d ti a.id vc vp vl vk))), (7, (none, .box (blkV k' lv' inf' t' d' ti' a'.id vc' vp' vl' vk')))] (ρa := [(0, _), (1, _), (5, _)]) (σa := []) ⟨rfl, rfl, rfl, trivial⟩ trivial ?_ ?_
    ·
     refine Zbb Tryd.mixed rfl [] trivial ?_
     refine Zak 0 rfl (by kernel_rfl) (Zbt) (Zae rfl rfl) rfl (Zak 1 rfl (by kernel_rfl) (Zbt) (Zae rfl rfl) rfl ?_)
     refine Zak 2 rfl (by kernel_rfl) (Zbt) (Zs rfl Tryd.s29 rfl rfl h1 rfl (by omega)) rfl ?_
     refine Zak 3 rfl (by kernel_rfl) (Zbt) (Zr rfl Tryd.k39 rfl h1 (by omega) hcut1 (vs := [_, _, _, _, _, _, _, _, _, _, _]) rfl rfl rfl rfl) rfl ?_
     refine Zak 4 rfl (by kernel_rfl) (Zbt) (Zae rfl rfl) rfl (Zak 5 rfl (by kernel_rfl) (Zbt) (Zae rfl rfl) rfl ?_)
     refine Zak 6 rfl (by kernel_rfl) (Zbt) (Zs rfl Tryd.s29 rfl rfl h2 rfl (by omega)) rfl ?_
     refine Zak 7 rfl (by kernel_rfl) (Zbt) (Zr rfl Tryd.k39 rfl h2 (by omega) hcut2 (vs := [_, _, _, _, _, _, _, _, _, _, _]) rfl rfl rfl rfl) rfl ?_
     refine ra_all (is := [8, 9]) (by kernel_rfl) rfl ?_
     refine raall_cons rfl rfl ?_ ?_
     ·
      refine Zau trivial Tryd.z39 rfl rfl rfl ?_
      refine Zbi (i := 9) rfl rfl (by kernel_rfl) ?_
      refine Zau trivial Tryd.z39 rfl rfl rfl ?_
      refine Zbi (i := 10) rfl rfl (by kernel_rfl) ?_
      refine Zao trivial rfl Tryd.k39 rfl rfl rfl (vs := [_, _, _, _, _, _, _, _, _, _, _]) rfl rfl (by first | rfl | assumption | simp [Value.oneCell', str]) (Nat.le_of_ble_eq_true rfl) rfl ?_
      refine Zbi (i := 11) rfl rfl (by kernel_rfl) ?_
      refine Zao trivial rfl Tryd.k39 rfl rfl rfl (vs := [_, _, _, _, _, _, _, _, _, _, _]) rfl rfl (by first | rfl | assumption | simp [Value.oneCell', str]) (Nat.le_of_ble_eq_true rfl) rfl ?_
      exact cutS_endA (by kernel_rfl) ⟨rfl, rfl, rfl, rfl, rfl, trivial⟩ ⟨rfl, rfl, trivial⟩
     refine raall_cons rfl rfl ?_ ?_
     ·
      refine Zau trivial Tryd.z39 rfl rfl rfl ?_
      refine Zbi (i := 8) rfl rfl (by kernel_rfl) ?_
      refine Zau trivial Tryd.z39 rfl rfl rfl ?_
      refine Zbi (i := 10) rfl rfl (by kernel_rfl) ?_
      refine Zao trivial rfl Tryd.k39 rfl rfl rfl (vs := [_, _, _, _, _, _, _, _, _, _, _]) rfl rfl (by first | rfl | assumption | simp [Value.oneCell', str]) (Nat.le_of_ble_eq_true rfl) rfl ?_
      refine Zbi (i := 11) rfl rfl (by kernel_rfl) ?_
      refine Zao trivial rfl Tryd.k39 rfl rfl rfl (vs := [_, _, _, _, _, _, _, _, _, _, _]) rfl rfl (by first | rfl | assumption | simp [Value.oneCell', str]) (Nat.le_of_ble_eq_true rfl) rfl ?_
      exact cutS_endA (by kernel_rfl) ⟨rfl, rfl, rfl, rfl, rfl, trivial⟩ ⟨rfl, rfl, trivial⟩
     exact raall_nil
    refine Zd (Ze (Zb (Zg (Zi rfl Tryd.f39' rfl (by decide) rfl) rfl (Zg (Zl rfl Tryd.k3 rfl rfl rfl (vs := [_]) rfl rfl rfl) rfl (Zg (Zi rfl Tryd.f39' rfl (by decide) rfl) rfl (Zg (Zl rfl Tryd.k3 rfl rfl rfl (vs := [_]) rfl rfl rfl) rfl (Zg (y_neq rfl rfl rfl) rfl ?_)))))))
    refine ym rfl rfl ?_
    refine Zar 32 rfl (fun hg7_5 => ?_) (fun hg7_5 => ?_)
    ·
     iterate 5 refine Zaf rfl rfl rfl rfl ?_
     refine Zg (Zo rfl rfl rfl) rfl (ym rfl rfl ?_)
     iterate 5 refine Zaf rfl rfl rfl rfl ?_
     refine Zg (Zo rfl rfl rfl) rfl (ym rfl rfl ?_)
     iterate 5 refine Zaf rfl rfl rfl rfl ?_
     refine Zg (Zo rfl rfl rfl) rfl (ym rfl rfl ?_)
     iterate 5 refine Zaf rfl rfl rfl rfl ?_
     refine Zg (Zo rfl rfl rfl) rfl (ym rfl rfl ?_)
     iterate 5 refine Zaf rfl rfl rfl rfl ?_
     refine Zg (Zo rfl rfl rfl) rfl (ym rfl rfl ?_)
     iterate 6 refine Zaf rfl rfl rfl rfl ?_
     refine Zg (Zo rfl rfl rfl) rfl (ym rfl rfl ?_)
     iterate 6 refine Zaf rfl rfl rfl rfl ?_
     refine Zg (Zo rfl rfl rfl) rfl (ym rfl rfl ?_)
     iterate 6 refine Zaf rfl rfl rfl rfl ?_
     refine Zg (Zo rfl rfl rfl) rfl (Zf (ρ' := [(0, _), (1, _), (5, _), (90, _)]) ⟨rfl, rfl, rfl, rfl, trivial⟩ ?_)
     refine Zd (Zax rfl (rfl) (Ze (Zb (ya rfl rfl (Zf (ρ' := [(4, _)]) ⟨rfl, trivial⟩ ?_)))))
     refine Zd (Zaj (Zaa (Zm (Zm (Zaa (Zm (Zbf (.tmp rfl) ?_)))))))
     first
     | exact SayEq.no fun e => of_decide_eq_true hg7_5 (hxy e).1
     | exact SayEq.no fun e => of_decide_eq_true hg7_12 (hxy e).2.1
     | exact SayEq.no fun e => of_decide_eq_true hg7_19 (hxy e).2.2.1
     | exact SayEq.no fun e => of_decide_eq_true hg7_26 (hxy e).2.2.2.1
     | exact SayEq.no fun e => of_decide_eq_true hg7_33 (hxy e).2.2.2.2.1
     | exact SayEq.no fun e => of_decide_eq_true hg7_40 (hxy e).2.2.2.2.2.1
     | exact SayEq.no fun e => by rw [hB1.2 (hxy e).2.2.2.2.2.2.1] at hg7_48; exact absurd hg7_48 (by decide)
     | exact SayEq.no fun e => by rw [hB2.2 (hxy e).2.2.2.2.2.2.2.1] at hg7_56; exact absurd hg7_56 (by decide)
     | exact SayEq.no fun e => by rw [hB3.2 (hxy e).2.2.2.2.2.2.2.2] at hb7; exact absurd hb7 (by decide)
     | exact SayEq.yes (all_get hl fun k hk => hsm k (by omega))
    ·
     refine Zp rfl rfl (Zg (Zi rfl Tryd.f39' rfl (by decide) rfl) rfl (Zp rfl rfl (Zg (Zl rfl Tryd.k3 rfl rfl rfl (vs := [_]) rfl rfl rfl) rfl (Zp rfl rfl (Zg (Zi rfl Tryd.f39' rfl (by decide) rfl) rfl (Zp rfl rfl (Zg (Zl rfl Tryd.k3 rfl rfl rfl (vs := [_]) rfl rfl rfl) rfl ?_)))))))
     refine Zp rfl rfl (Zg (y_neq rfl rfl rfl) rfl (Zg (Zad rfl rfl rfl) rfl (ym rfl rfl ?_)))
     refine Zar 39 rfl (fun hg7_12 => ?_) (fun hg7_12 => ?_)
     ·
      iterate 5 refine Zaf rfl rfl rfl rfl ?_
      refine Zg (Zo rfl rfl rfl) rfl (ym rfl rfl ?_)
      iterate 5 refine Zaf rfl rfl rfl rfl ?_
      refine Zg (Zo rfl rfl rfl) rfl (ym rfl rfl ?_)
      iterate 5 refine Zaf rfl rfl rfl rfl ?_
      refine Zg (Zo rfl rfl rfl) rfl (ym rfl rfl ?_)
      iterate 5 refine Zaf rfl rfl rfl rfl ?_
      refine Zg (Zo rfl rfl rfl) rfl (ym rfl rfl ?_)
      iterate 6 refine Zaf rfl rfl rfl rfl ?_
      refine Zg (Zo rfl rfl rfl) rfl (ym rfl rfl ?_)
      iterate 6 refine Zaf rfl rfl rfl rfl ?_
      refine Zg (Zo rfl rfl rfl) rfl (ym rfl rfl ?_)
      iterate 6 refine Zaf rfl rfl rfl rfl ?_
      refine Zg (Zo rfl rfl rfl) rfl (Zf (ρ' := [(0, _), (1, _), (5, _), (90, _)]) ⟨rfl, rfl, rfl, rfl, trivial⟩ ?_)
      refine Zd (Zax rfl (rfl) (Ze (Zb (ya rfl rfl (Zf (ρ' := [(4, _)]) ⟨rfl, trivial⟩ ?_)))))
      refine Zd (Zaj (Zaa (Zm (Zm (Zaa (Zm (Zbf (.tmp rfl) ?_)))))))
      first
      | exact SayEq.no fun e => of_decide_eq_true hg7_5 (hxy e).1
      | exact SayEq.no fun e => of_decide_eq_true hg7_12 (hxy e).2.1
      | exact SayEq.no fun e => of_decide_eq_true hg7_19 (hxy e).2.2.1
      | exact SayEq.no fun e => of_decide_eq_true hg7_26 (hxy e).2.2.2.1
      | exact SayEq.no fun e => of_decide_eq_true hg7_33 (hxy e).2.2.2.2.1
      | exact SayEq.no fun e => of_decide_eq_true hg7_40 (hxy e).2.2.2.2.2.1
      | exact SayEq.no fun e => by rw [hB1.2 (hxy e).2.2.2.2.2.2.1] at hg7_48; exact absurd hg7_48 (by decide)
      | exact SayEq.no fun e => by rw [hB2.2 (hxy e).2.2.2.2.2.2.2.1] at hg7_56; exact absurd hg7_56 (by decide)
      | exact SayEq.no fun e => by rw [hB3.2 (hxy e).2.2.2.2.2.2.2.2] at hb7; exact absurd hb7 (by decide)
      | exact SayEq.yes (all_get hl fun k hk => hsm k (by omega))
     ·
      refine Zp rfl rfl (Zg (Zi rfl Tryd.f39' rfl (by decide) rfl) rfl (Zp rfl rfl (Zg (Zl rfl Tryd.k9 rfl rfl rfl (vs := [_]) rfl rfl rfl) rfl (Zp rfl rfl (Zg (Zi rfl Tryd.f39' rfl (by decide) rfl) rfl (Zp rfl rfl (Zg (Zl rfl Tryd.k9 rfl rfl rfl (vs := [_]) rfl rfl rfl) rfl ?_)))))))
      refine Zp rfl rfl (Zg (Zbp rfl rfl rfl) rfl (Zg (Zad rfl rfl rfl) rfl (ym rfl rfl ?_)))
      refine Zar 46 rfl (fun hg7_19 => ?_) (fun hg7_19 => ?_)
      ·
       iterate 5 refine Zaf rfl rfl rfl rfl ?_
       refine Zg (Zo rfl rfl rfl) rfl (ym rfl rfl ?_)
       iterate 5 refine Zaf rfl rfl rfl rfl ?_
       refine Zg (Zo rfl rfl rfl) rfl (ym rfl rfl ?_)
       iterate 5 refine Zaf rfl rfl rfl rfl ?_
       refine Zg (Zo rfl rfl rfl) rfl (ym rfl rfl ?_)
       iterate 6 refine Zaf rfl rfl rfl rfl ?_
       refine Zg (Zo rfl rfl rfl) rfl (ym rfl rfl ?_)
       iterate 6 refine Zaf rfl rfl rfl rfl ?_
       refine Zg (Zo rfl rfl rfl) rfl (ym rfl rfl ?_)
       iterate 6 refine Zaf rfl rfl rfl rfl ?_
       refine Zg (Zo rfl rfl rfl) rfl (Zf (ρ' := [(0, _), (1, _), (5, _), (90, _)]) ⟨rfl, rfl, rfl, rfl, trivial⟩ ?_)
       refine Zd (Zax rfl (rfl) (Ze (Zb (ya rfl rfl (Zf (ρ' := [(4, _)]) ⟨rfl, trivial⟩ ?_)))))
       refine Zd (Zaj (Zaa (Zm (Zm (Zaa (Zm (Zbf (.tmp rfl) ?_)))))))
       first
       | exact SayEq.no fun e => of_decide_eq_true hg7_5 (hxy e).1
       | exact SayEq.no fun e => of_decide_eq_true hg7_12 (hxy e).2.1
       | exact SayEq.no fun e => of_decide_eq_true hg7_19 (hxy e).2.2.1
       | exact SayEq.no fun e => of_decide_eq_true hg7_26 (hxy e).2.2.2.1
       | exact SayEq.no fun e => of_decide_eq_true hg7_33 (hxy e).2.2.2.2.1
       | exact SayEq.no fun e => of_decide_eq_true hg7_40 (hxy e).2.2.2.2.2.1
       | exact SayEq.no fun e => by rw [hB1.2 (hxy e).2.2.2.2.2.2.1] at hg7_48; exact absurd hg7_48 (by decide)
       | exact SayEq.no fun e => by rw [hB2.2 (hxy e).2.2.2.2.2.2.2.1] at hg7_56; exact absurd hg7_56 (by decide)
       | exact SayEq.no fun e => by rw [hB3.2 (hxy e).2.2.2.2.2.2.2.2] at hb7; exact absurd hb7 (by decide)
       | exact SayEq.yes (all_get hl fun k hk => hsm k (by omega))
      ·
       refine Zp rfl rfl (Zg (Zi rfl Tryd.f39' rfl (by decide) rfl) rfl (Zp rfl rfl (Zg (Zl rfl Tryd.k9 rfl rfl rfl (vs := [_]) rfl rfl rfl) rfl (Zp rfl rfl (Zg (Zi rfl Tryd.f39' rfl (by decide) rfl) rfl (Zp rfl rfl (Zg (Zl rfl Tryd.k9 rfl rfl rfl (vs := [_]) rfl rfl rfl) rfl ?_)))))))
       refine Zp rfl rfl (Zg (Zbp rfl rfl rfl) rfl (Zg (Zad rfl rfl rfl) rfl (ym rfl rfl ?_)))
       refine Zar 53 rfl (fun hg7_26 => ?_) (fun hg7_26 => ?_)
       ·
        iterate 5 refine Zaf rfl rfl rfl rfl ?_
        refine Zg (Zo rfl rfl rfl) rfl (ym rfl rfl ?_)
        iterate 5 refine Zaf rfl rfl rfl rfl ?_
        refine Zg (Zo rfl rfl rfl) rfl (ym rfl rfl ?_)
        iterate 6 refine Zaf rfl rfl rfl rfl ?_
        refine Zg (Zo rfl rfl rfl) rfl (ym rfl rfl ?_)
        iterate 6 refine Zaf rfl rfl rfl rfl ?_
        refine Zg (Zo rfl rfl rfl) rfl (ym rfl rfl ?_)
        iterate 6 refine Zaf rfl rfl rfl rfl ?_
        refine Zg (Zo rfl rfl rfl) rfl (Zf (ρ' := [(0, _), (1, _), (5, _), (90, _)]) ⟨rfl, rfl, rfl, rfl, trivial⟩ ?_)
        refine Zd (Zax rfl (rfl) (Ze (Zb (ya rfl rfl (Zf (ρ' := [(4, _)]) ⟨rfl, trivial⟩ ?_)))))
        refine Zd (Zaj (Zaa (Zm (Zm (Zaa (Zm (Zbf (.tmp rfl) ?_)))))))
        first
        | exact SayEq.no fun e => of_decide_eq_true hg7_5 (hxy e).1
        | exact SayEq.no fun e => of_decide_eq_true hg7_12 (hxy e).2.1
        | exact SayEq.no fun e => of_decide_eq_true hg7_19 (hxy e).2.2.1
        | exact SayEq.no fun e => of_decide_eq_true hg7_26 (hxy e).2.2.2.1
        | exact SayEq.no fun e => of_decide_eq_true hg7_33 (hxy e).2.2.2.2.1
        | exact SayEq.no fun e => of_decide_eq_true hg7_40 (hxy e).2.2.2.2.2.1
        | exact SayEq.no fun e => by rw [hB1.2 (hxy e).2.2.2.2.2.2.1] at hg7_48; exact absurd hg7_48 (by decide)
        | exact SayEq.no fun e => by rw [hB2.2 (hxy e).2.2.2.2.2.2.2.1] at hg7_56; exact absurd hg7_56 (by decide)
        | exact SayEq.no fun e => by rw [hB3.2 (hxy e).2.2.2.2.2.2.2.2] at hb7; exact absurd hb7 (by decide)
        | exact SayEq.yes (all_get hl fun k hk => hsm k (by omega))
       ·
        refine Zp rfl rfl (Zg (Zi rfl Tryd.f39' rfl (by decide) rfl) rfl (Zp rfl rfl (Zg (Zl rfl Tryd.k9 rfl rfl rfl (vs := [_]) rfl rfl rfl) rfl (Zp rfl rfl (Zg (Zi rfl Tryd.f39' rfl (by decide) rfl) rfl (Zp rfl rfl (Zg (Zl rfl Tryd.k9 rfl rfl rfl (vs := [_]) rfl rfl rfl) rfl ?_)))))))
        refine Zp rfl rfl (Zg (Zbp rfl rfl rfl) rfl (Zg (Zad rfl rfl rfl) rfl (ym rfl rfl ?_)))
        refine Zar 60 rfl (fun hg7_33 => ?_) (fun hg7_33 => ?_)
        ·
         iterate 5 refine Zaf rfl rfl rfl rfl ?_
         refine Zg (Zo rfl rfl rfl) rfl (ym rfl rfl ?_)
         iterate 6 refine Zaf rfl rfl rfl rfl ?_
         refine Zg (Zo rfl rfl rfl) rfl (ym rfl rfl ?_)
         iterate 6 refine Zaf rfl rfl rfl rfl ?_
         refine Zg (Zo rfl rfl rfl) rfl (ym rfl rfl ?_)
         iterate 6 refine Zaf rfl rfl rfl rfl ?_
         refine Zg (Zo rfl rfl rfl) rfl (Zf (ρ' := [(0, _), (1, _), (5, _), (90, _)]) ⟨rfl, rfl, rfl, rfl, trivial⟩ ?_)
         refine Zd (Zax rfl (rfl) (Ze (Zb (ya rfl rfl (Zf (ρ' := [(4, _)]) ⟨rfl, trivial⟩ ?_)))))
         refine Zd (Zaj (Zaa (Zm (Zm (Zaa (Zm (Zbf (.tmp rfl) ?_)))))))
         first
         | exact SayEq.no fun e => of_decide_eq_true hg7_5 (hxy e).1
         | exact SayEq.no fun e => of_decide_eq_true hg7_12 (hxy e).2.1
         | exact SayEq.no fun e => of_decide_eq_true hg7_19 (hxy e).2.2.1
         | exact SayEq.no fun e => of_decide_eq_true hg7_26 (hxy e).2.2.2.1
         | exact SayEq.no fun e => of_decide_eq_true hg7_33 (hxy e).2.2.2.2.1
         | exact SayEq.no fun e => of_decide_eq_true hg7_40 (hxy e).2.2.2.2.2.1
         | exact SayEq.no fun e => by rw [hB1.2 (hxy e).2.2.2.2.2.2.1] at hg7_48; exact absurd hg7_48 (by decide)
         | exact SayEq.no fun e => by rw [hB2.2 (hxy e).2.2.2.2.2.2.2.1] at hg7_56; exact absurd hg7_56 (by decide)
         | exact SayEq.no fun e => by rw [hB3.2 (hxy e).2.2.2.2.2.2.2.2] at hb7; exact absurd hb7 (by decide)
         | exact SayEq.yes (all_get hl fun k hk => hsm k (by omega))
        ·
         refine Zp rfl rfl (Zg (Zi rfl Tryd.f39' rfl (by decide) rfl) rfl (Zp rfl rfl (Zg (Zl rfl Tryd.k9 rfl rfl rfl (vs := [_]) rfl rfl rfl) rfl (Zp rfl rfl (Zg (Zi rfl Tryd.f39' rfl (by decide) rfl) rfl (Zp rfl rfl (Zg (Zl rfl Tryd.k9 rfl rfl rfl (vs := [_]) rfl rfl rfl) rfl ?_)))))))
         refine Zp rfl rfl (Zg (Zbp rfl rfl rfl) rfl (Zg (Zad rfl rfl rfl) rfl (ym rfl rfl ?_)))
         refine Zar 67 rfl (fun hg7_40 => ?_) (fun hg7_40 => ?_)
         ·
          iterate 6 refine Zaf rfl rfl rfl rfl ?_
          refine Zg (Zo rfl rfl rfl) rfl (ym rfl rfl ?_)
          iterate 6 refine Zaf rfl rfl rfl rfl ?_
          refine Zg (Zo rfl rfl rfl) rfl (ym rfl rfl ?_)
          iterate 6 refine Zaf rfl rfl rfl rfl ?_
          refine Zg (Zo rfl rfl rfl) rfl (Zf (ρ' := [(0, _), (1, _), (5, _), (90, _)]) ⟨rfl, rfl, rfl, rfl, trivial⟩ ?_)
          refine Zd (Zax rfl (rfl) (Ze (Zb (ya rfl rfl (Zf (ρ' := [(4, _)]) ⟨rfl, trivial⟩ ?_)))))
          refine Zd (Zaj (Zaa (Zm (Zm (Zaa (Zm (Zbf (.tmp rfl) ?_)))))))
          first
          | exact SayEq.no fun e => of_decide_eq_true hg7_5 (hxy e).1
          | exact SayEq.no fun e => of_decide_eq_true hg7_12 (hxy e).2.1
          | exact SayEq.no fun e => of_decide_eq_true hg7_19 (hxy e).2.2.1
          | exact SayEq.no fun e => of_decide_eq_true hg7_26 (hxy e).2.2.2.1
          | exact SayEq.no fun e => of_decide_eq_true hg7_33 (hxy e).2.2.2.2.1
          | exact SayEq.no fun e => of_decide_eq_true hg7_40 (hxy e).2.2.2.2.2.1
          | exact SayEq.no fun e => by rw [hB1.2 (hxy e).2.2.2.2.2.2.1] at hg7_48; exact absurd hg7_48 (by decide)
          | exact SayEq.no fun e => by rw [hB2.2 (hxy e).2.2.2.2.2.2.2.1] at hg7_56; exact absurd hg7_56 (by decide)
          | exact SayEq.no fun e => by rw [hB3.2 (hxy e).2.2.2.2.2.2.2.2] at hb7; exact absurd hb7 (by decide)
          | exact SayEq.yes (all_get hl fun k hk => hsm k (by omega))
         ·
          refine Zp rfl rfl (Zg (Zi rfl Tryd.f39' rfl (by decide) rfl) rfl (Zp rfl rfl (Zg (Zl rfl Tryd.k37 rfl rfl rfl (vs := [_, _, _]) rfl rfl rfl) rfl (Zp rfl rfl (Zg (Zi rfl Tryd.f39' rfl (by decide) rfl) rfl (Zp rfl rfl (Zg (Zl rfl Tryd.k37 rfl rfl rfl (vs := [_, _, _]) rfl rfl rfl) rfl ?_)))))))
          refine Zp rfl rfl (Zt rfl rfl ?_)
          refine Zac (caps := []) trivial rfl rfl Tryd.c46 rfl (FnP.mono (attrs_dec a a' _ _ _ _ okc okp u s1 s2 s1' s2') ?_)
          rintro v u1 hle1 ⟨b1, rfl, hB1⟩
          refine Zp rfl rfl (Zg (y_not rfl rfl) rfl (Zg (Zad rfl rfl rfl) rfl (ym rfl rfl ?_)))
          refine Zar 75 rfl (fun hg7_48 => ?_) (fun hg7_48 => ?_)
          ·
           iterate 6 refine Zaf rfl rfl rfl rfl ?_
           refine Zg (Zo rfl rfl rfl) rfl (ym rfl rfl ?_)
           iterate 6 refine Zaf rfl rfl rfl rfl ?_
           refine Zg (Zo rfl rfl rfl) rfl (Zf (ρ' := [(0, _), (1, _), (5, _), (90, _)]) ⟨rfl, rfl, rfl, rfl, trivial⟩ ?_)
           refine Zd (Zax rfl (rfl) (Ze (Zb (ya rfl rfl (Zf (ρ' := [(4, _)]) ⟨rfl, trivial⟩ ?_)))))
           refine Zd (Zaj (Zaa (Zm (Zm (Zaa (Zm (Zbf (.tmp rfl) ?_)))))))
           first
           | exact SayEq.no fun e => of_decide_eq_true hg7_5 (hxy e).1
           | exact SayEq.no fun e => of_decide_eq_true hg7_12 (hxy e).2.1
           | exact SayEq.no fun e => of_decide_eq_true hg7_19 (hxy e).2.2.1
           | exact SayEq.no fun e => of_decide_eq_true hg7_26 (hxy e).2.2.2.1
           | exact SayEq.no fun e => of_decide_eq_true hg7_33 (hxy e).2.2.2.2.1
           | exact SayEq.no fun e => of_decide_eq_true hg7_40 (hxy e).2.2.2.2.2.1
           | exact SayEq.no fun e => by rw [hB1.2 (hxy e).2.2.2.2.2.2.1] at hg7_48; exact absurd hg7_48 (by decide)
           | exact SayEq.no fun e => by rw [hB2.2 (hxy e).2.2.2.2.2.2.2.1] at hg7_56; exact absurd hg7_56 (by decide)
           | exact SayEq.no fun e => by rw [hB3.2 (hxy e).2.2.2.2.2.2.2.2] at hb7; exact absurd hb7 (by decide)
           | exact SayEq.yes (all_get hl fun k hk => hsm k (by omega))
          ·
           refine Zp rfl rfl (Zg (Zi rfl Tryd.f39' rfl (by decide) rfl) rfl (Zp rfl rfl (Zg (Zl rfl Tryd.k35 rfl rfl rfl (vs := [_]) rfl rfl rfl) rfl (Zp rfl rfl (Zg (Zi rfl Tryd.f39' rfl (by decide) rfl) rfl (Zp rfl rfl (Zg (Zl rfl Tryd.k35 rfl rfl rfl (vs := [_]) rfl rfl rfl) rfl ?_)))))))
           refine Zp rfl rfl (Zt rfl rfl ?_)
           refine Zac (caps := []) trivial rfl rfl Tryd.c47 rfl (FnP.mono (sameLine_dec (szI line) _ _ line line' (Nat.le_refl _) okl u s3 s3') ?_)
           rintro v u1 hle1 ⟨b2, rfl, hB2⟩
           refine Zp rfl rfl (Zg (y_not rfl rfl) rfl (Zg (Zad rfl rfl rfl) rfl (ym rfl rfl ?_)))
           refine Zar 83 rfl (fun hg7_56 => ?_) (fun hg7_56 => ?_)
           ·
            iterate 6 refine Zaf rfl rfl rfl rfl ?_
            refine Zg (Zo rfl rfl rfl) rfl (Zf (ρ' := [(0, _), (1, _), (5, _), (90, _)]) ⟨rfl, rfl, rfl, rfl, trivial⟩ ?_)
            refine Zd (Zax rfl (rfl) (Ze (Zb (ya rfl rfl (Zf (ρ' := [(4, _)]) ⟨rfl, trivial⟩ ?_)))))
            refine Zd (Zaj (Zaa (Zm (Zm (Zaa (Zm (Zbf (.tmp rfl) ?_)))))))
            first
            | exact SayEq.no fun e => of_decide_eq_true hg7_5 (hxy e).1
            | exact SayEq.no fun e => of_decide_eq_true hg7_12 (hxy e).2.1
            | exact SayEq.no fun e => of_decide_eq_true hg7_19 (hxy e).2.2.1
            | exact SayEq.no fun e => of_decide_eq_true hg7_26 (hxy e).2.2.2.1
            | exact SayEq.no fun e => of_decide_eq_true hg7_33 (hxy e).2.2.2.2.1
            | exact SayEq.no fun e => of_decide_eq_true hg7_40 (hxy e).2.2.2.2.2.1
            | exact SayEq.no fun e => by rw [hB1.2 (hxy e).2.2.2.2.2.2.1] at hg7_48; exact absurd hg7_48 (by decide)
            | exact SayEq.no fun e => by rw [hB2.2 (hxy e).2.2.2.2.2.2.2.1] at hg7_56; exact absurd hg7_56 (by decide)
            | exact SayEq.no fun e => by rw [hB3.2 (hxy e).2.2.2.2.2.2.2.2] at hb7; exact absurd hb7 (by decide)
            | exact SayEq.yes (all_get hl fun k hk => hsm k (by omega))
           ·
            refine Zp rfl rfl (Zg (Zi rfl Tryd.f39' rfl (by decide) rfl) rfl (Zp rfl rfl (Zg (Zl rfl Tryd.k29 rfl rfl rfl (vs := [_]) rfl rfl rfl) rfl (Zp rfl rfl (Zg (Zi rfl Tryd.f39' rfl (by decide) rfl) rfl (Zp rfl rfl (Zg (Zl rfl Tryd.k29 rfl rfl rfl (vs := [_]) rfl rfl rfl) rfl ?_)))))))
            refine Zp rfl rfl (Zt rfl rfl ?_)
            refine Zac (caps := []) trivial rfl rfl Tryd.c34 rfl (FnP.mono (ih _ (by omega : szB kids < n) _ _ kids kids' (Nat.le_refl _) okk u s4 s4') ?_)
            rintro v u1 hle1 ⟨b3, rfl, hB3⟩
            refine Zp rfl rfl (Zg (y_not rfl rfl) rfl (Zg (Zad rfl rfl rfl) rfl (Zf (ρ' := [(0, _), (1, _), (5, _), (90, _)]) ⟨rfl, rfl, rfl, rfl, trivial⟩ ?_)))
            refine Zd ?_
            refine Zw rfl (fun hb7 => ?_) (fun hb7 => ?_)
            ·
             refine Ze (Zb (ya rfl rfl (Zf (ρ' := [(4, _)]) ⟨rfl, trivial⟩ ?_)))
             refine Zd (Zaj (Zaa (Zm (Zm (Zaa (Zm (Zbf (.tmp rfl) ?_)))))))
             first
             | exact SayEq.no fun e => of_decide_eq_true hg7_5 (hxy e).1
             | exact SayEq.no fun e => of_decide_eq_true hg7_12 (hxy e).2.1
             | exact SayEq.no fun e => of_decide_eq_true hg7_19 (hxy e).2.2.1
             | exact SayEq.no fun e => of_decide_eq_true hg7_26 (hxy e).2.2.2.1
             | exact SayEq.no fun e => of_decide_eq_true hg7_33 (hxy e).2.2.2.2.1
             | exact SayEq.no fun e => of_decide_eq_true hg7_40 (hxy e).2.2.2.2.2.1
             | exact SayEq.no fun e => by rw [hB1.2 (hxy e).2.2.2.2.2.2.1] at hg7_48; exact absurd hg7_48 (by decide)
             | exact SayEq.no fun e => by rw [hB2.2 (hxy e).2.2.2.2.2.2.2.1] at hg7_56; exact absurd hg7_56 (by decide)
             | exact SayEq.no fun e => by rw [hB3.2 (hxy e).2.2.2.2.2.2.2.2] at hb7; exact absurd hb7 (by decide)
             | exact SayEq.yes (all_get hl fun k hk => hsm k (by omega))
            ·
             refine Zv (Zah (Zd (Zb (ym rfl rfl (Zg (Zap rfl rfl rfl (Zk (by omega))) rfl ?_)))))
             refine ya rfl rfl (Zf (ρ' := [(0, _), (1, _), (5, _)]) ⟨rfl, rfl, rfl, trivial⟩ ?_)
             refine Zab ?_
             refine ⟨m - 1, [(0, _), (1, _), (5, _)], [], by omega, ⟨rfl, rfl, rfl, trivial⟩, trivial, i + 1, by omega, hle4, (by first | rfl | simp), (by first | rfl | (simp only [List.cons.injEq, Prod.mk.injEq, SV.v.injEq, Value.int.injEq, true_and, and_true]; omega) | simp), ?_⟩
             have e1 : k = k' := Decidable.of_not_not (of_decide_eq_false hg7_5)
             have e2 : lv = lv' := Decidable.of_not_not (of_decide_eq_false hg7_12)
             have e3 : inf = inf' := Decidable.of_not_not (of_decide_eq_false hg7_19)
             have e4 : t = t' := Decidable.of_not_not (of_decide_eq_false hg7_26)
             have e5 : d = d' := Decidable.of_not_not (of_decide_eq_false hg7_33)
             have e6 : ti = ti' := Decidable.of_not_not (of_decide_eq_false hg7_40)
             have e7 : a = a' := hB1.1 (by cases b1 <;> simp_all)
             have e8 : line = line' := hB2.1 (by cases b2 <;> simp_all)
             have e9 : kids = kids' := hB3.1 (by cases b3 <;> simp_all)
             have hgg : xs[i]? = ys[i]? := by rw [hg, hg', e1, e2, e3, e4, e5, e6, e7, e8, e9]
             exact ⟨rfl, get_up hsm hgg⟩
   ·
    have h4n := of_decide_eq_false hb4
    refine Zan ?_
    refine Zh (Zh ?_)
    refine Zu ?_
    refine Zd (Ze (Zb (ya rfl rfl (Zf (ρ' := [(4, _)]) ⟨rfl, trivial⟩ ?_))))
    refine Zd (Zaj (Zbf (.tmp rfl) ?_))
    first
    | exact SayEq.no fun e => of_decide_eq_true hg7_5 (hxy e).1
    | exact SayEq.no fun e => of_decide_eq_true hg7_12 (hxy e).2.1
    | exact SayEq.no fun e => of_decide_eq_true hg7_19 (hxy e).2.2.1
    | exact SayEq.no fun e => of_decide_eq_true hg7_26 (hxy e).2.2.2.1
    | exact SayEq.no fun e => of_decide_eq_true hg7_33 (hxy e).2.2.2.2.1
    | exact SayEq.no fun e => of_decide_eq_true hg7_40 (hxy e).2.2.2.2.2.1
    | exact SayEq.no fun e => by rw [hB1.2 (hxy e).2.2.2.2.2.2.1] at hg7_48; exact absurd hg7_48 (by decide)
    | exact SayEq.no fun e => by rw [hB2.2 (hxy e).2.2.2.2.2.2.2.1] at hg7_56; exact absurd hg7_56 (by decide)
    | exact SayEq.no fun e => by rw [hB3.2 (hxy e).2.2.2.2.2.2.2.2] at hb7; exact absurd hb7 (by decide)
    | exact SayEq.yes (all_get hl fun k hk => hsm k (by omega))
def decI (k : Int) : Bs := if k < 0 then 45 :: dec k.natAbs else dec k.natAbs
theorem dig_val {i j : Nat} (hi : i < 10) (hj : j < 10) (h : UInt8.ofNat (48 + i) = UInt8.ofNat (48 + j)) : i = j := by
 have := congrArg UInt8.toNat h
 simp [UInt8.toNat_ofNat'] at this
 omega
theorem dig_ge {i : Nat} (hi : i < 10) : UInt8.ofNat (48 + i) ≠ 59 ∧ UInt8.ofNat (48 + i) ≠ 45 := by
 refine ⟨fun h => ?_, fun h => ?_⟩
 ·
  have := congrArg UInt8.toNat h; simp [UInt8.toNat_ofNat'] at this; omega
 ·
  have := congrArg UInt8.toNat h; simp [UInt8.toNat_ofNat'] at this; omega
theorem dec_mem (n : Nat) : ∀ c ∈ dec n, c ≠ 59 ∧ c ≠ 45 := by
 induction n using Nat.strongRecOn with
 | _ n ih =>
  intro c hc
  by_cases h : n < 10
  ·
   rw [dec_small h] at hc
   simp only [List.mem_cons, List.not_mem_nil, or_false] at hc
   subst hc
   exact dig_ge h
  ·
   rw [dec_big h] at hc
   rcases List.mem_append.1 hc with hc | hc
   ·
    exact ih (n / 10) (by omega) c hc
   ·
    simp only [List.mem_cons, List.not_mem_nil, or_false] at hc
    subst hc
    exact dig_ge (by omega)
theorem dec_ne (n : Nat) : dec n ≠ [] := by
 by_cases h : n < 10
 ·
  rw [dec_small h]; simp
 ·
  rw [dec_big h]; simp
theorem dec_inj (n : Nat) : ∀ m, dec n = dec m → n = m := by
 induction n using Nat.strongRecOn with
 | _ n ih =>
  intro m h
  by_cases hn : n < 10 <;> by_cases hm : m < 10
  ·
   rw [dec_small hn, dec_small hm] at h
   exact dig_val hn hm (by simpa using h)
  ·
   rw [dec_small hn, dec_big hm] at h
   have := congrArg List.length h
   have h0 : (dec (m / 10)).length ≠ 0 := fun e => dec_ne _ (List.eq_nil_of_length_eq_zero e)
   simp only [List.length_append, List.length_cons, List.length_nil] at this; omega
  ·
   rw [dec_small hm, dec_big hn] at h
   have := congrArg List.length h
   have h0 : (dec (n / 10)).length ≠ 0 := fun e => dec_ne _ (List.eq_nil_of_length_eq_zero e)
   simp only [List.length_append, List.length_cons, List.length_nil] at this; omega
  ·
   rw [dec_big hn, dec_big hm] at h
   have h1 := List.append_inj' h rfl
   have h2 := ih (n / 10) (by omega) (m / 10) h1.1
   have h3 : n % 10 = m % 10 := dig_val (by omega) (by omega) (by simpa using h1.2)
   omega
theorem decI_mem (k : Int) : ∀ c ∈ decI k, c ≠ 59 := by
 intro c hc
 unfold decI at hc
 split at hc
 ·
  rcases List.mem_cons.1 hc with rfl | hc
  ·
   decide
  ·
   exact (dec_mem _ c hc).1
 ·
  exact (dec_mem _ c hc).1
theorem decI_inj {k l : Int} (h : decI k = decI l) : k = l := by
 have key : ∀ a b : Nat, 45 :: dec a ≠ dec b := by
  intro a b e
  exact (dec_mem b 45 (by rw [← e]; simp)).2 rfl
 unfold decI at h
 split at h <;> split at h
 ·
  have := dec_inj _ _ (by simpa using h); omega
 ·
  exact absurd h (key _ _)
 ·
  exact absurd h.symm (key _ _)
 ·
  have := dec_inj _ _ h; omega
def UD {α : Type} (e : α → Bs) : Prop := ∀ x y r s, e x ++ r = e y ++ s → x = y ∧ r = s
def eN (k : Int) : Bs := decI k ++ [59]
def eT (s : Bs) : Bs := eN s.length ++ s
theorem split59 : ∀ (a b r s : Bs), (∀ c ∈ a, c ≠ 59) → (∀ c ∈ b, c ≠ 59) → a ++ 59 :: r = b ++ 59 :: s → a = b ∧ r = s
 | [], [], r, s, _, _, h => ⟨rfl, by simpa using h⟩
 | [], y :: b, r, s, _, hb, h => by
  simp at h
  exact absurd h.1.symm (hb y (by simp))
 | x :: a, [], r, s, ha, _, h => by
  simp at h
  exact absurd h.1 (ha x (by simp))
 | x :: a, y :: b, r, s, ha, hb, h => by
  simp only [List.cons_append, List.cons.injEq] at h
  obtain ⟨h1, h2⟩ := split59 a b r s (fun c hc => ha c (by simp [hc])) (fun c hc => hb c (by simp [hc])) h.2
  exact ⟨by rw [h.1, h1], h2⟩
theorem eN_ud : UD eN := by
 intro x y r s h
 simp only [eN, List.append_assoc, List.cons_append, List.nil_append] at h
 obtain ⟨h1, h2⟩ := split59 _ _ _ _ (decI_mem x) (decI_mem y) h
 exact ⟨decI_inj h1, h2⟩
theorem eT_ud : UD eT := by
 intro x y r s h
 simp only [eT, List.append_assoc] at h
 obtain ⟨h1, h2⟩ := eN_ud _ _ _ _ h
 exact List.append_inj h2 (by omega)
theorem flat_ud {α : Type} {e : α → Bs} (he : UD e) : ∀ (xs ys : List α) (r s : Bs), xs.length = ys.length → xs.flatMap e ++ r = ys.flatMap e ++ s → xs = ys ∧ r = s
 | [], [], r, s, _, h => ⟨rfl, h⟩
 | x :: xs, y :: ys, r, s, hl, h => by
  simp only [List.flatMap_cons, List.append_assoc] at h
  obtain ⟨h1, h2⟩ := he _ _ _ _ h
  obtain ⟨h3, h4⟩ := flat_ud he xs ys r s (by simpa using hl) h2
  exact ⟨by rw [h1, h3], h4⟩
 | [], y :: ys, r, s, hl, h => by simp at hl
 | x :: xs, [], r, s, hl, h => by simp at hl
def eLs {α : Type} (e : α → Bs) (xs : List α) : Bs := eN xs.length ++ xs.flatMap e
theorem eLs_ud {α : Type} {e : α → Bs} (he : UD e) : UD (eLs e) := by
 intro x y r s h
 simp only [eLs, List.append_assoc] at h
 obtain ⟨h1, h2⟩ := eN_ud _ _ _ _ h
 exact flat_ud he _ _ _ _ (by omega) h2
def eP (p : Bs × Bs) : Bs := eT p.1 ++ eT p.2
theorem eP_ud : UD eP := by
 intro x y r s h
 simp only [eP, List.append_assoc] at h
 obtain ⟨h1, h2⟩ := eT_ud _ _ _ _ h
 obtain ⟨h3, h4⟩ := eT_ud _ _ _ _ h2
 exact ⟨Prod.ext h1 h3, h4⟩
def eA (a : DAttr) : Bs := eT a.id ++ eLs eT a.classes ++ eLs eP a.pairs
theorem eA_ud : UD eA := by
 intro x y r s h
 simp only [eA, List.append_assoc] at h
 obtain ⟨h1, h⟩ := eT_ud _ _ _ _ h
 obtain ⟨h2, h⟩ := eLs_ud eT_ud _ _ _ _ h
 obtain ⟨h3, h⟩ := eLs_ud eP_ud _ _ _ _ h
 refine ⟨?_, h⟩
 cases x; cases y
 simp only at h1 h2 h3
 rw [h1, h2, h3]
def eC (c : DCite) : Bs := eT c.key ++ eT c.pre ++ eT c.suf ++ eN (if c.bare = true then 1 else 0)
theorem eC_ud : UD eC := by
 intro x y r s h
 simp only [eC, List.append_assoc] at h
 obtain ⟨h1, h⟩ := eT_ud _ _ _ _ h
 obtain ⟨h2, h⟩ := eT_ud _ _ _ _ h
 obtain ⟨h3, h⟩ := eT_ud _ _ _ _ h
 obtain ⟨h4, h⟩ := eN_ud _ _ _ _ h
 refine ⟨?_, h⟩
 obtain ⟨k1, k2, k3, k4⟩ := x
 obtain ⟨l1, l2, l3, l4⟩ := y
 simp only at h1 h2 h3 h4
 have : k4 = l4 := by cases k4 <;> cases l4 <;> simp at h4 <;> rfl
 rw [h1, h2, h3, this]
mutual
def eI : Inl → Bs
 | .mk k t d ti a args cites kids => eN k ++ eT t ++ eT d ++ eT ti ++ eA a ++ eLs eT args ++ eLs eC cites ++ (eN kids.length ++ eIs kids)
def eIs : List Inl → Bs
 | [] => []
 | x :: xs => eI x ++ eIs xs
end
mutual
theorem eI_ud : ∀ (x y : Inl) (r s : Bs), eI x ++ r = eI y ++ s → x = y ∧ r = s
 | .mk k t d ti a args cites kids, .mk k' t' d' ti' a' args' cites' kids', r, s, h => by
  simp only [eI, List.append_assoc] at h
  obtain ⟨h1, h⟩ := eN_ud _ _ _ _ h
  obtain ⟨h2, h⟩ := eT_ud _ _ _ _ h
  obtain ⟨h3, h⟩ := eT_ud _ _ _ _ h
  obtain ⟨h4, h⟩ := eT_ud _ _ _ _ h
  obtain ⟨h5, h⟩ := eA_ud _ _ _ _ h
  obtain ⟨h6, h⟩ := eLs_ud eT_ud _ _ _ _ h
  obtain ⟨h7, h⟩ := eLs_ud eC_ud _ _ _ _ h
  obtain ⟨h8, h⟩ := eN_ud _ _ _ _ h
  obtain ⟨h9, h⟩ := eIs_ud kids kids' r s (by omega) h
  exact ⟨by rw [h1, h2, h3, h4, h5, h6, h7, h9], h⟩
theorem eIs_ud : ∀ (xs ys : List Inl) (r s : Bs), xs.length = ys.length → eIs xs ++ r = eIs ys ++ s → xs = ys ∧ r = s
 | [], [], r, s, _, h => ⟨rfl, h⟩
 | x :: xs, y :: ys, r, s, hl, h => by
  simp only [eIs, List.append_assoc] at h
  obtain ⟨h1, h⟩ := eI_ud x y _ _ h
  obtain ⟨h2, h⟩ := eIs_ud xs ys r s (by simpa using hl) h
  exact ⟨by rw [h1, h2], h⟩
 | [], y :: ys, r, s, hl, h => by simp at hl
 | x :: xs, [], r, s, hl, h => by simp at hl
end
def eL (xs : List Inl) : Bs := eN xs.length ++ eIs xs
theorem eL_ud : UD eL := by
 intro x y r s h
 simp only [eL, List.append_assoc] at h
 obtain ⟨h1, h2⟩ := eN_ud _ _ _ _ h
 exact eIs_ud _ _ _ _ (by omega) h2
mutual
def eB : Blk → Bs
 | .mk k lv inf t d ti a line kids => eN k ++ eN lv ++ eT inf ++ eT t ++ eT d ++ eT ti ++ eA a ++ eL line ++ (eN kids.length ++ eBs kids)
def eBs : List Blk → Bs
 | [] => []
 | x :: xs => eB x ++ eBs xs
end
mutual
theorem eB_ud : ∀ (x y : Blk) (r s : Bs), eB x ++ r = eB y ++ s → x = y ∧ r = s
 | .mk k lv inf t d ti a line kids, .mk k' lv' inf' t' d' ti' a' line' kids', r, s, h => by
  simp only [eB, List.append_assoc] at h
  obtain ⟨h1, h⟩ := eN_ud _ _ _ _ h
  obtain ⟨h2, h⟩ := eN_ud _ _ _ _ h
  obtain ⟨h3, h⟩ := eT_ud _ _ _ _ h
  obtain ⟨h4, h⟩ := eT_ud _ _ _ _ h
  obtain ⟨h5, h⟩ := eT_ud _ _ _ _ h
  obtain ⟨h6, h⟩ := eT_ud _ _ _ _ h
  obtain ⟨h7, h⟩ := eA_ud _ _ _ _ h
  obtain ⟨h8, h⟩ := eL_ud _ _ _ _ h
  obtain ⟨h9, h⟩ := eN_ud _ _ _ _ h
  obtain ⟨h10, h⟩ := eBs_ud kids kids' r s (by omega) h
  exact ⟨by rw [h1, h2, h3, h4, h5, h6, h7, h8, h10], h⟩
theorem eBs_ud : ∀ (xs ys : List Blk) (r s : Bs), xs.length = ys.length → eBs xs ++ r = eBs ys ++ s → xs = ys ∧ r = s
 | [], [], r, s, _, h => ⟨rfl, h⟩
 | x :: xs, y :: ys, r, s, hl, h => by
  simp only [eBs, List.append_assoc] at h
  obtain ⟨h1, h⟩ := eB_ud x y _ _ h
  obtain ⟨h2, h⟩ := eBs_ud xs ys r s (by simpa using hl) h
  exact ⟨by rw [h1, h2], h⟩
 | [], y :: ys, r, s, hl, h => by simp at hl
 | x :: xs, [], r, s, hl, h => by simp at hl
end
theorem eB_inj {x y : Blk} (h : eB x = eB y) : x = y := (eB_ud x y [] [] (by simpa using h)).1
end Go.Proofs.Ytekkhlepbacapaa
