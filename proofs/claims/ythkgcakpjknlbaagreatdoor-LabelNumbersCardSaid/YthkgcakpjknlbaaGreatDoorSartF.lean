/- Texts for a law, part 6: they walk the functions that the law reaches, and state what holds of them; without conditions beyond each theorem's own. -/
import Derived.Test.YthkgcakpjknlbaaGreatDoorSartE
namespace Go.Proofs.Ythkgcakpjknlbaa
open Go Go.Eng
set_option linter.unusedSimpArgs false
set_option linter.unusedVariables false
set_option maxRecDepth 4000
def ptsC (l : List (Int × Int)) : List Value := l.flatMap fun p => [.int .i64 p.1, .int .i64 p.2]
theorem cut_ptsC {xs : List (Int × Int)} {i : Nat} {x : Int × Int} (h : xs[i]? = some x) : cut (ptsC xs) (i * 2) 2 = [.int .i64 x.1, .int .i64 x.2] := cut_flat (f := fun x : Int × Int => [.int .i64 x.1, .int .i64 x.2]) (fun _ => rfl) h
def intsC (l : List Int) : List Value := l.map (Value.int .i64)
theorem cut_intsC {xs : List Int} {i : Nat} {x : Int} (h : xs[i]? = some x) : cut (intsC xs) (i * 1) 1 = [.int .i64 x] := by
 obtain ⟨hlt, rfl⟩ := List.getElem?_eq_some_iff.1 h
 unfold cut intsC
 rw [Nat.mul_one, List.drop_eq_getElem_cons (by simpa using hlt)]
 simp
def Big (c : Int) : Prop := -1000000000 ≤ c ∧ c ≤ 1000000000
theorem kpoints_fn (s : Bs) (hs : s.length ≤ 100000000) (u : View) : FnP Tryz.prog 95 [str s] u fun r u' => ∃ l : List (Int × Int), IsSl u' r l.length 2 (ptsC l) ∧ l.length ≤ s.length ∧ ∀ p ∈ l, Big p.1 := by
 refine FnP.intro [.tmp 2] Tryz.func95 rfl rfl rfl ?_
 intro w0 D hw0
 refine Zd (Za (ya rfl rfl (Zf (ρ' := [(0, _)]) ⟨rfl, trivial⟩ ?_)))
 refine Zc (Zd (Za (ya rfl rfl ?_)))
 refine Zch 3 503 135 2 rfl rfl rfl ?_
 refine Zf (ρ' := [(0, _), (3, _)]) ⟨rfl, rfl, trivial⟩ ?_
 refine Zc (Zd (Za (ya rfl rfl (Zf (ρ' := [(0, _), (3, _), (4, _)]) ⟨rfl, rfl, rfl, trivial⟩ ?_))))
 refine Zc (Zd (Zad ?_))
 refine Zbc (fun m ρ σ u' => ∃ i : Nat, i + m = s.length + 4 ∧ VLe u u' ∧ ∃ (l : List (Int × Int)), σ = [(503, (none, .row 135 2 l.length (ptsC l)))] ∧ ρ = [(0, .v (str s)), (3, .s 503), (4, .v (.int .i64 i))] ∧ (l.length ≤ i ∧ (∀ p ∈ l, Big p.1) ∧ (l = [] ∨ l.length ≤ s.length))) (s.length + 4) ?_ ?_
 ·
  refine ⟨[(0, _), (3, _), (4, _)], [(503, _)], ⟨rfl, rfl, rfl, trivial⟩, ⟨rfl, trivial⟩, 0, by omega, VLe.refl _, [], rfl, rfl, ?_⟩
  exact ⟨Nat.le_refl _, (fun p hp => by cases hp), .inl rfl⟩
 ·
  rintro m ρ σ u' ⟨i, hi3, hle3, l, rfl, rfl, ⟨hll, hlb, hls⟩⟩
  refine Zd (Zd (Za (ym rfl rfl (ym rfl rfl (Zg (Zao rfl rfl Tryz.str9 rfl) rfl (Zg (Zbn rfl rfl rfl) rfl (Zf (ρ' := [(0, _), (3, _), (4, _), (9, _)]) ⟨rfl, rfl, rfl, rfl, trivial⟩ ?_)))))))
  refine Zc ?_
  refine Zo rfl (fun hb3 => ?_) (fun hb3 => ?_)
  ·
   have hlt : i < s.length := (by have := of_decide_eq_true hb3; omega)
   refine Zr (Zc (Zad (Zd (Za (ym rfl rfl (ym rfl rfl (Zv rfl rfl ?_)))))))
   refine Zaa (caps := []) trivial rfl rfl Tryz.c115 rfl (FnP.mono (kat_fn s i hlt (by omega) _) ?_)
   rintro v u1 hle1 ⟨C, N, rfl, hC1, hC2, hN1, hN2⟩
   refine Zv rfl rfl ?_
   refine Zas trivial Tryz.z135 rfl rfl rfl ?_
   refine Zv rfl rfl ?_
   refine Zm trivial rfl Tryz.k135 rfl rfl rfl (vs := [_, _]) rfl rfl (by first | rfl | assumption | simp [Value.oneCell', str]) (Nat.le_of_ble_eq_true rfl) rfl ?_
   refine Zf (ρ' := [(0, _), (3, _), (4, _), (5, _)]) ⟨rfl, rfl, rfl, rfl, trivial⟩ ?_
   refine Zc (Zd (Za (ym rfl rfl (Zg (Zi rfl Tryz.k135 rfl rfl rfl (vs := [_, _]) rfl rfl rfl) rfl (Zv rfl rfl ?_)))))
   refine Zak trivial Tryz.s132 Tryz.z135 (ps := [(_, _)]) rfl (xs := [_, _]) rfl rfl rfl rfl rfl rfl rfl ?_
   refine Zv rfl rfl ?_
   refine Zby trivial rfl rfl Tryz.s132 Tryz.z135 rfl rfl rfl rfl rfl rfl (by first | rfl | assumption | simp [Value.oneCell', str]) (by omega) (by omega) (ρ' := [(0, _), (4, _), (5, _)]) ⟨rfl, rfl, rfl, trivial⟩ rfl rfl rfl ?_
   refine ya rfl rfl ?_
   refine rl_ren 16 503 rfl rfl rfl ?_
   refine Zf (ρ' := [(0, _), (3, _), (4, _), (5, _)]) ⟨rfl, rfl, rfl, rfl, trivial⟩ ?_
   refine Zc (Za (ym rfl rfl (Zg (Zh rfl Tryz.f135' rfl (by decide) rfl) rfl (Zg (Zi rfl Tryz.k3 rfl rfl rfl (vs := [_]) rfl rfl rfl) rfl (Zg (Zav rfl rfl rfl (Zs (by omega))) rfl ?_)))))
   refine ya rfl rfl (Zf (ρ' := [(0, _), (3, _), (4, _)]) ⟨rfl, rfl, rfl, trivial⟩ ?_)
   refine Zah (Zab ?_)
   refine ⟨s.length + 4 - (i + N.toNat), [(0, _), (3, _), (4, _)], [(503, _)], by omega, ⟨rfl, rfl, rfl, trivial⟩, ⟨rfl, trivial⟩, i + N.toNat, by omega, hle3, l ++ [(C, N)], (by rw [List.length_append]; simp [ptsC]), (by rw [show ((i + N.toNat : Nat) : Int) = i + N by omega]; rfl), ?_⟩
   refine ⟨by rw [List.length_append]; simp; omega, ?_, by right; rw [List.length_append]; simp; omega⟩
   intro p hp
   rcases List.mem_append.1 hp with h | h
   ·
    exact hlb p h
   ·
    rw [List.mem_singleton.1 h]; exact ⟨hC1, hC2⟩
  ·
   refine Zax ?_
   refine Zq (Zq ?_)
   refine Zaf ?_
   refine Zc (Zd (Za (ym rfl rfl ?_)))
   refine Zbo 503 rfl ?_
   intro ad503 cap503 u503 hle503z hsl503
   refine ya rfl rfl (Zf (ρ' := [(2, _)]) ⟨rfl, trivial⟩ ?_)
   refine Zc (Zw (Zbe (.tmp rfl) ?_))
   refine ⟨l, ⟨_, _, rfl, hsl503⟩, ?_, hlb⟩
   rcases hls with h | h
   ·
    rw [h]; exact Nat.zero_le _
   ·
    exact h
theorem kclean_fn (c : Int) (u : View) : FnP Tryz.prog 96 [.int .i64 c] u fun r _ => ∃ b, r = .bool b := by
 refine FnP.intro [.tmp 2] Tryz.func96 rfl rfl rfl ?_
 intro w0 D hw0
 refine Zd (Za (ya rfl rfl (Zf (ρ' := [(0, _)]) ⟨rfl, trivial⟩ ?_)))
 refine Zc (Zd (Za (ym rfl rfl (Zg (Zaw rfl rfl rfl) rfl (ym rfl rfl ?_)))))
 refine Zae 5 rfl (fun hg1_2 => ?_) (fun hg1_2 => ?_)
 ·
  iterate 3 refine Zt rfl rfl rfl rfl ?_
  refine Zbg rfl rfl rfl (Zbg rfl rfl rfl (Zt rfl rfl rfl rfl (Zg (Zl rfl rfl rfl) rfl (ya rfl rfl (Zf (ρ' := [(2, _)]) ⟨rfl, trivial⟩ ?_)))))
  refine Zc (Zw (Zbe (.tmp rfl) ?_))
  exact ⟨_, rfl⟩
 ·
  refine Zk rfl rfl (ym rfl rfl (Zk rfl rfl (Zg (Zci rfl rfl rfl) rfl (Zk rfl rfl (ym rfl rfl ?_)))))
  refine Zae 8 rfl (fun hg1_5 => ?_) (fun hg1_5 => ?_)
  ·
   refine Zk rfl rfl (ym rfl rfl (Zk rfl rfl (Zg (Zck rfl rfl rfl) rfl (Zk rfl rfl (Zg (Zl rfl rfl rfl) rfl (Zg (Zn rfl rfl rfl) rfl (ya rfl rfl (Zf (ρ' := [(2, _)]) ⟨rfl, trivial⟩ ?_))))))))
   refine Zc (Zw (Zbe (.tmp rfl) ?_))
   exact ⟨_, rfl⟩
  ·
   refine Zt rfl rfl rfl rfl (Zt rfl rfl rfl rfl (Zk rfl rfl (Zg (Zn rfl rfl rfl) rfl (Zg (Zn rfl rfl rfl) rfl (ya rfl rfl (Zf (ρ' := [(2, _)]) ⟨rfl, trivial⟩ ?_))))))
   refine Zc (Zw (Zbe (.tmp rfl) ?_))
   exact ⟨_, rfl⟩
theorem kvalid_fn (s : Bs) (hs : s.length ≤ 100000000) (u : View) : FnP Tryz.prog 73 [str s] u fun r _ => ∃ b, r = .bool b := by
 refine FnP.intro [.tmp 2] Tryz.func73 rfl rfl rfl ?_
 intro w0 D hw0
 refine Zd (Za (ya rfl rfl (Zf (ρ' := [(0, _)]) ⟨rfl, trivial⟩ ?_)))
 refine Zc (Zd (Zd (Za (ym rfl rfl (Zv rfl rfl ?_)))))
 refine Zbm (caps := []) trivial rfl rfl Tryz.c95 rfl (FnP.mono (kpoints_fn s hs u) ?_)
 rintro v uP hle0 ⟨l, ⟨ad, cap, rfl, h1⟩, hl, hlb⟩ hleP
 refine Zg (Zaq rfl rfl Tryz.s132 rfl) rfl (ym rfl rfl (Zf (ρ' := [(6, _), (7, _), (8, _)]) ⟨rfl, rfl, rfl, trivial⟩ ?_))
 refine Zc (Zad ?_)
 refine Zbc (fun m ρ σ u' => ∃ i : Nat, i + m = l.length ∧ VLe uP u' ∧ σ = [] ∧ ρ = [(6, .v (.slice ad l.length cap)), (7, .v (.int .i64 l.length)), (8, .v (.int .i64 i))] ∧ (uP = u')) (l.length) ?_ ?_
 ·
  refine ⟨[(6, _), (7, _), (8, _)], [], ⟨rfl, rfl, rfl, trivial⟩, trivial, 0, by omega, VLe.refl _, (by first | rfl | simp), (by first | rfl | (simp only [List.cons.injEq, Prod.mk.injEq, SV.v.injEq, Value.int.injEq, true_and, and_true]; omega) | simp), ?_⟩
  rfl
 ·
  rintro m ρ σ u' ⟨i, hi2, hle2, rfl, rfl, rfl⟩
  refine Zd (Za (Zg (Zbn rfl rfl rfl) rfl (Zf (ρ' := [(6, _), (7, _), (8, _), (9, _)]) ⟨rfl, rfl, rfl, rfl, trivial⟩ ?_)))
  refine Zc (Zd ?_)
  refine Zo rfl (fun hb2 => ?_) (fun hb2 => ?_)
  ·
   have hlt : i < l.length := by have := of_decide_eq_true hb2; omega
   have hcc := cut_ptsC (List.getElem?_eq_getElem hlt)
   refine Zr (Zc (Zd (Zad (Zd (Za (Zg (Zai rfl Tryz.s132 rfl rfl (by assumption) (by first | rfl | omega) (by omega)) rfl (Zg (Zag rfl Tryz.k135 rfl (by assumption) (by omega) (by assumption) (vs := [_, _]) rfl rfl rfl rfl) rfl (Zv rfl rfl ?_))))))))
   refine Zas trivial Tryz.z135 rfl rfl rfl ?_
   refine Zv rfl rfl ?_
   refine Zm trivial rfl Tryz.k135 rfl rfl rfl (vs := [_, _]) rfl rfl (by first | rfl | assumption | simp [Value.oneCell', str]) (Nat.le_of_ble_eq_true rfl) rfl ?_
   refine Zf (ρ' := [(4, _), (6, _), (7, _), (8, _)]) ⟨rfl, rfl, rfl, rfl, trivial⟩ ?_
   refine Zc (Zd (Za (Zg (Zh rfl Tryz.f135' rfl (by decide) rfl) rfl (Zg (Zi rfl Tryz.k3 rfl rfl rfl (vs := [_]) rfl rfl rfl) rfl (Zv rfl rfl ?_)))))
   refine Zaa (caps := []) trivial rfl rfl Tryz.c96 rfl (FnP.mono (kclean_fn _ _) ?_)
   rintro v u1 hle1 ⟨b, rfl⟩
   refine Zg (Zbr rfl rfl) rfl (ym rfl rfl ?_)
   refine Zae 16 rfl (fun hg4_4 => ?_) (fun hg4_4 => ?_)
   ·
    iterate 4 refine Zt rfl rfl rfl rfl ?_
    iterate 3 refine Zbg rfl rfl rfl ?_
    refine Zt rfl rfl rfl rfl (Zg (Zl rfl rfl rfl) rfl (Zf (ρ' := [(6, _), (7, _), (8, _), (25, _)]) ⟨rfl, rfl, rfl, rfl, trivial⟩ ?_))
    refine Zc (Zcr rfl (rfl) (Zd (Za (ya rfl rfl (Zf (ρ' := [(2, _)]) ⟨rfl, trivial⟩ ?_)))))
    refine Zc (Zw (Zu (Zj (Zj (Zu (Zj (Zbe (.tmp rfl) ?_)))))))
    exact ⟨_, rfl⟩
   ·
    refine Zk rfl rfl (Zg (Zh rfl Tryz.f135' rfl (by decide) rfl) rfl (Zk rfl rfl (Zg (Zi rfl Tryz.k3 rfl rfl rfl (vs := [_]) rfl rfl rfl) rfl (Zk rfl rfl (Zg (Zaw rfl rfl rfl) rfl (Zk rfl rfl (ym rfl rfl ?_)))))))
    refine Zae 20 rfl (fun hg4_8 => ?_) (fun hg4_8 => ?_)
    ·
     refine Zk rfl rfl (Zg (Zh rfl Tryz.f135' rfl (by decide) rfl) rfl (Zk rfl rfl (Zg (Zi rfl Tryz.k3 rfl rfl rfl (vs := [_]) rfl rfl rfl) rfl (Zk rfl rfl (Zg (Zaw rfl rfl rfl) rfl (Zk rfl rfl (Zg (Zl rfl rfl rfl) rfl ?_)))))))
     refine Zg (Zn rfl rfl rfl) rfl (Zf (ρ' := [(6, _), (7, _), (8, _), (25, _)]) ⟨rfl, rfl, rfl, rfl, trivial⟩ ?_)
     refine Zc ?_
     refine Zo rfl (fun hb5 => ?_) (fun hb5 => ?_)
     ·
      refine Zd (Za (ya rfl rfl (Zf (ρ' := [(2, _)]) ⟨rfl, trivial⟩ ?_)))
      refine Zc (Zw (Zu (Zj (Zj (Zu (Zj (Zbe (.tmp rfl) ?_)))))))
      exact ⟨_, rfl⟩
     ·
      refine Zr (Zah (Zc (Za (Zg (Zav rfl rfl rfl (Zs (by omega))) rfl ?_))))
      refine ym rfl rfl (Zf (ρ' := [(6, _), (7, _), (8, _)]) ⟨rfl, rfl, rfl, trivial⟩ ?_)
      refine Zab ?_
      refine ⟨m - 1, [(6, _), (7, _), (8, _)], [], by omega, ⟨rfl, rfl, rfl, trivial⟩, trivial, i + 1, by omega, hle2, (by first | rfl | simp), (by first | rfl | (simp only [List.cons.injEq, Prod.mk.injEq, SV.v.injEq, Value.int.injEq, true_and, and_true]; omega) | simp), ?_⟩
      rfl
    ·
     iterate 3 refine Zt rfl rfl rfl rfl ?_
     refine Zk rfl rfl (Zg (Zn rfl rfl rfl) rfl (Zg (Zn rfl rfl rfl) rfl (Zf (ρ' := [(6, _), (7, _), (8, _), (25, _)]) ⟨rfl, rfl, rfl, rfl, trivial⟩ ?_)))
     refine Zc (Zce rfl (rfl) (Zr (Zah (Zc (Za (Zg (Zav rfl rfl rfl (Zs (by omega))) rfl ?_))))))
     refine ym rfl rfl (Zf (ρ' := [(6, _), (7, _), (8, _)]) ⟨rfl, rfl, rfl, trivial⟩ ?_)
     refine Zab ?_
     refine ⟨m - 1, [(6, _), (7, _), (8, _)], [], by omega, ⟨rfl, rfl, rfl, trivial⟩, trivial, i + 1, by omega, hle2, (by first | rfl | simp), (by first | rfl | (simp only [List.cons.injEq, Prod.mk.injEq, SV.v.injEq, Value.int.injEq, true_and, and_true]; omega) | simp), ?_⟩
     rfl
  ·
   skip
   refine Zax ?_
   refine Zq (Zq ?_)
   refine Zaf ?_
   refine Zc (Zd (Za (ya rfl rfl (Zf (ρ' := [(2, _)]) ⟨rfl, trivial⟩ ?_))))
   refine Zc (Zw (Zbe (.tmp rfl) ?_))
   exact ⟨_, rfl⟩
theorem inr_fn (c : Int) (v : Value) (l : List (Int × Int)) (hl : l.length ≤ 1000) (u : View) (h : IsSl u v l.length 2 (ptsC l)) : FnP Tryz.prog 159 [.int .i64 c, v] u fun r _ => ∃ b, r = .bool b := by
 obtain ⟨ad, cap, rfl, h1⟩ := h
 refine FnP.intro [.tmp 4] Tryz.func159 rfl rfl rfl ?_
 intro w0 D hw0
 refine Zd (Za (ya rfl rfl (Zf (ρ' := [(0, _), (1, _)]) ⟨rfl, rfl, trivial⟩ ?_)))
 refine Zc (Zd (Zd (Za (ym rfl rfl (Zg (Zaq rfl rfl Tryz.s191 rfl) rfl (ym rfl rfl (Zf (ρ' := [(0, _), (7, _), (8, _), (9, _)]) ⟨rfl, rfl, rfl, rfl, trivial⟩ ?_)))))))
 refine Zc (Zad ?_)
 refine Zbc (fun m ρ σ u' => ∃ i : Nat, i + m = l.length ∧ VLe u u' ∧ σ = [] ∧ ρ = [(0, .v (.int .i64 c)), (7, .v (.slice ad l.length cap)), (8, .v (.int .i64 l.length)), (9, .v (.int .i64 i))] ∧ (u = u')) (l.length) ?_ ?_
 ·
  refine ⟨[(0, _), (7, _), (8, _), (9, _)], [], ⟨rfl, rfl, rfl, rfl, trivial⟩, trivial, 0, by omega, VLe.refl _, (by first | rfl | simp), (by first | rfl | (simp only [List.cons.injEq, Prod.mk.injEq, SV.v.injEq, Value.int.injEq, true_and, and_true]; omega) | simp), ?_⟩
  rfl
 ·
  rintro m ρ σ u' ⟨i, hi2, hle2, rfl, rfl, rfl⟩
  refine Zd (Za (Zg (Zbn rfl rfl rfl) rfl (Zf (ρ' := [(0, _), (7, _), (8, _), (9, _), (10, _)]) ⟨rfl, rfl, rfl, rfl, rfl, trivial⟩ ?_)))
  refine Zc (Zd ?_)
  refine Zo rfl (fun hb2 => ?_) (fun hb2 => ?_)
  ·
   have hlt : i < l.length := by have := of_decide_eq_true hb2; omega
   have hcc := cut_ptsC (List.getElem?_eq_getElem hlt)
   refine Zr (Zc (Zd (Zad (Zd (Za (Zg (Zai rfl Tryz.s191 rfl rfl (by assumption) (by first | rfl | omega) (by omega)) rfl (Zg (Zag rfl Tryz.k190 rfl (by assumption) (by omega) (by assumption) (vs := [_, _]) rfl rfl rfl rfl) rfl (Zv rfl rfl ?_))))))))
   refine Zas trivial Tryz.z190 rfl rfl rfl ?_
   refine Zv rfl rfl ?_
   refine Zm trivial rfl Tryz.k190 rfl rfl rfl (vs := [_, _]) rfl rfl (by first | rfl | assumption | simp [Value.oneCell', str]) (Nat.le_of_ble_eq_true rfl) rfl ?_
   refine Zf (ρ' := [(0, _), (6, _), (7, _), (8, _), (9, _)]) ⟨rfl, rfl, rfl, rfl, rfl, trivial⟩ ?_
   refine Zc (Zd (Za (ym rfl rfl (Zg (Zh rfl Tryz.f190' rfl (by decide) rfl) rfl (Zg (Zi rfl Tryz.k3 rfl rfl rfl (vs := [_]) rfl rfl rfl) rfl (Zg (Zci rfl rfl rfl) rfl (ym rfl rfl ?_)))))))
   refine Zae 17 rfl (fun hg4_4 => ?_) (fun hg4_4 => ?_)
   ·
    refine Zk rfl rfl (ym rfl rfl (Zk rfl rfl (Zg (Zh rfl Tryz.f190' rfl (by decide) rfl) rfl (Zk rfl rfl (Zg (Zi rfl Tryz.k3 rfl rfl rfl (vs := [_]) rfl rfl rfl) rfl (Zk rfl rfl (Zg (y_leq rfl rfl rfl) rfl ?_)))))))
    refine Zg (Zl rfl rfl rfl) rfl (Zf (ρ' := [(0, _), (7, _), (8, _), (9, _), (22, _)]) ⟨rfl, rfl, rfl, rfl, rfl, trivial⟩ ?_)
    refine Zc ?_
    refine Zo rfl (fun hb4 => ?_) (fun hb4 => ?_)
    ·
     refine Zd (Za (ya rfl rfl (Zf (ρ' := [(4, _)]) ⟨rfl, trivial⟩ ?_)))
     refine Zc (Zw (Zu (Zj (Zj (Zu (Zj (Zbe (.tmp rfl) ?_)))))))
     exact ⟨_, rfl⟩
    ·
     refine Zr (Zah (Zc (Za (Zg (Zav rfl rfl rfl (Zs (by omega))) rfl ?_))))
     refine ym rfl rfl (Zf (ρ' := [(0, _), (7, _), (8, _), (9, _)]) ⟨rfl, rfl, rfl, rfl, trivial⟩ ?_)
     refine Zab ?_
     refine ⟨m - 1, [(0, _), (7, _), (8, _), (9, _)], [], by omega, ⟨rfl, rfl, rfl, rfl, trivial⟩, trivial, i + 1, by omega, hle2, (by first | rfl | simp), (by first | rfl | (simp only [List.cons.injEq, Prod.mk.injEq, SV.v.injEq, Value.int.injEq, true_and, and_true]; omega) | simp), ?_⟩
     rfl
   ·
    iterate 4 refine Zt rfl rfl rfl rfl ?_
    refine Zg (Zn rfl rfl rfl) rfl (Zf (ρ' := [(0, _), (7, _), (8, _), (9, _), (22, _)]) ⟨rfl, rfl, rfl, rfl, rfl, trivial⟩ ?_)
    refine Zc (Zce rfl (rfl) (Zr (Zah (Zc (Za (Zg (Zav rfl rfl rfl (Zs (by omega))) rfl ?_))))))
    refine ym rfl rfl (Zf (ρ' := [(0, _), (7, _), (8, _), (9, _)]) ⟨rfl, rfl, rfl, rfl, trivial⟩ ?_)
    refine Zab ?_
    refine ⟨m - 1, [(0, _), (7, _), (8, _), (9, _)], [], by omega, ⟨rfl, rfl, rfl, rfl, trivial⟩, trivial, i + 1, by omega, hle2, (by first | rfl | simp), (by first | rfl | (simp only [List.cons.injEq, Prod.mk.injEq, SV.v.injEq, Value.int.injEq, true_and, and_true]; omega) | simp), ?_⟩
    rfl
  ·
   skip
   refine Zax ?_
   refine Zq (Zq ?_)
   refine Zaf ?_
   refine Zc (Zd (Za (ya rfl rfl (Zf (ρ' := [(4, _)]) ⟨rfl, trivial⟩ ?_))))
   refine Zc (Zw (Zbe (.tmp rfl) ?_))
   exact ⟨_, rfl⟩
theorem kletter_fn (c : Int) (u : View) : FnP Tryz.prog 144 [.int .i64 c] u fun r _ => ∃ b, r = .bool b := by
 refine FnP.intro [.tmp 2] Tryz.func144 rfl rfl rfl ?_
 intro w0 D hw0
 refine Zd (Za (ya rfl rfl (Zf (ρ' := [(0, _)]) ⟨rfl, trivial⟩ ?_)))
 refine Zc (Zd (Za (ym rfl rfl (Zg (Zbf rfl Tryz.f190' Tryz.z190 (ps := [(_, _), (_, _)]) rfl (vs := [_, _]) rfl) rfl ?_))))
 refine Zg (Zbf rfl Tryz.f190' Tryz.z190 (ps := [(_, _), (_, _)]) rfl (vs := [_, _]) rfl) rfl ?_
 refine Zg (Zbf rfl Tryz.f190' Tryz.z190 (ps := [(_, _), (_, _)]) rfl (vs := [_, _]) rfl) rfl ?_
 refine Zg (Zbf rfl Tryz.f190' Tryz.z190 (ps := [(_, _), (_, _)]) rfl (vs := [_, _]) rfl) rfl ?_
 refine Zg (Zbf rfl Tryz.f190' Tryz.z190 (ps := [(_, _), (_, _)]) rfl (vs := [_, _]) rfl) rfl ?_
 refine Zg (Zbf rfl Tryz.f190' Tryz.z190 (ps := [(_, _), (_, _)]) rfl (vs := [_, _]) rfl) rfl ?_
 refine Zg (Zbf rfl Tryz.f190' Tryz.z190 (ps := [(_, _), (_, _)]) rfl (vs := [_, _]) rfl) rfl ?_
 refine Zg (Zbf rfl Tryz.f190' Tryz.z190 (ps := [(_, _), (_, _)]) rfl (vs := [_, _]) rfl) rfl ?_
 refine Zg (Zbf rfl Tryz.f190' Tryz.z190 (ps := [(_, _), (_, _)]) rfl (vs := [_, _]) rfl) rfl ?_
 refine Zg (Zbf rfl Tryz.f190' Tryz.z190 (ps := [(_, _), (_, _)]) rfl (vs := [_, _]) rfl) rfl ?_
 refine Zg (Zbf rfl Tryz.f190' Tryz.z190 (ps := [(_, _), (_, _)]) rfl (vs := [_, _]) rfl) rfl ?_
 refine Zg (Zbf rfl Tryz.f190' Tryz.z190 (ps := [(_, _), (_, _)]) rfl (vs := [_, _]) rfl) rfl ?_
 refine Zg (Zbf rfl Tryz.f190' Tryz.z190 (ps := [(_, _), (_, _)]) rfl (vs := [_, _]) rfl) rfl ?_
 refine Zg (Zbf rfl Tryz.f190' Tryz.z190 (ps := [(_, _), (_, _)]) rfl (vs := [_, _]) rfl) rfl ?_
 refine Zv rfl rfl ?_
 refine Zak trivial Tryz.s191 Tryz.z190 (ps := [(_, _), (_, _), (_, _), (_, _), (_, _), (_, _), (_, _), (_, _), (_, _), (_, _), (_, _), (_, _), (_, _), (_, _)]) rfl (xs := [_, _, _, _, _, _, _, _, _, _, _, _, _, _, _, _, _, _, _, _, _, _, _, _, _, _, _, _]) rfl rfl rfl rfl rfl rfl rfl ?_
 refine Zbo 18 rfl ?_
 intro ad18 cap18 u18 hle18z hsl18
 refine Zv rfl rfl ?_
 refine Zaa (caps := []) trivial rfl rfl Tryz.c159 rfl (FnP.mono (inr_fn c _ [(65, 90), (97, 122), (170, 170), (181, 181), (186, 186), (192, 214), (216, 246), (248, 687), (880, 1327), (4256, 4351), (7680, 8191), (12353, 12538), (19968, 40959), (44032, 55203)] (by decide) u18 ⟨_, _, rfl, hsl18⟩) ?_)
 rintro v u1 hle1 ⟨b, rfl⟩
 refine ya rfl rfl (Zf (ρ' := [(2, _)]) ⟨rfl, trivial⟩ ?_)
 refine Zc (Zw (Zbe (.tmp rfl) ?_))
 exact ⟨_, rfl⟩
theorem digit_fn (c : Int) (u : View) : FnP Tryz.prog 145 [.int .i64 c] u fun r _ => ∃ b, r = .bool b := by
 refine FnP.intro [.tmp 2] Tryz.func145 rfl rfl rfl ?_
 intro w0 D hw0
 refine Zd (Za (ya rfl rfl (Zf (ρ' := [(0, _)]) ⟨rfl, trivial⟩ ?_)))
 refine Zc (Zd (Za (ym rfl rfl (Zg (Zci rfl rfl rfl) rfl (ym rfl rfl ?_)))))
 refine Zae 5 rfl (fun hg1_2 => ?_) (fun hg1_2 => ?_)
 ·
  refine Zk rfl rfl (ym rfl rfl (Zk rfl rfl (Zg (y_leq rfl rfl rfl) rfl (Zg (Zl rfl rfl rfl) rfl (ya rfl rfl (Zf (ρ' := [(2, _)]) ⟨rfl, trivial⟩ ?_))))))
  refine Zc (Zw (Zbe (.tmp rfl) ?_))
  exact ⟨_, rfl⟩
 ·
  refine Zt rfl rfl rfl rfl (Zt rfl rfl rfl rfl (Zg (Zn rfl rfl rfl) rfl (ya rfl rfl (Zf (ρ' := [(2, _)]) ⟨rfl, trivial⟩ ?_))))
  refine Zc (Zw (Zbe (.tmp rfl) ?_))
  exact ⟨_, rfl⟩
theorem space_fn (c : Int) (u : View) : FnP Tryz.prog 156 [.int .i64 c] u fun r _ => ∃ b, r = .bool b := by
 refine FnP.intro [.tmp 2] Tryz.func156 rfl rfl rfl ?_
 intro w0 D hw0
 refine Zd (Za (ya rfl rfl (Zf (ρ' := [(0, _)]) ⟨rfl, trivial⟩ ?_)))
 refine Zc (Zd (Za (ym rfl rfl (Zg (Zaw rfl rfl rfl) rfl (ym rfl rfl ?_)))))
 refine Zae 5 rfl (fun hg1_2 => ?_) (fun hg1_2 => ?_)
 ·
  refine Zt rfl rfl rfl rfl (Zt rfl rfl rfl rfl (Zg (Zl rfl rfl rfl) rfl (ya rfl rfl (Zf (ρ' := [(2, _)]) ⟨rfl, trivial⟩ ?_))))
  refine Zc (Zw (Zbe (.tmp rfl) ?_))
  exact ⟨_, rfl⟩
 ·
  refine Zk rfl rfl (ym rfl rfl (Zk rfl rfl (Zg (Zaw rfl rfl rfl) rfl (Zg (Zn rfl rfl rfl) rfl (ya rfl rfl (Zf (ρ' := [(2, _)]) ⟨rfl, trivial⟩ ?_))))))
  refine Zc (Zw (Zbe (.tmp rfl) ?_))
  exact ⟨_, rfl⟩
theorem lowerC_fn (c : Int) (hc : Big c) (u : View) : FnP Tryz.prog 157 [.int .i64 c] u fun r _ => ∃ z, r = .int .i64 z := by
 unfold Big at hc
 refine FnP.intro [.tmp 2] Tryz.func157 rfl rfl rfl ?_
 intro w0 D hw0
 refine Zd (Za (ya rfl rfl (Zf (ρ' := [(0, _)]) ⟨rfl, trivial⟩ ?_)))
 refine Zc (Zd (Zad ?_))
 refine Zbu (fun ρ σ uci5 => ∃ (bb : Bool), VLe u uci5 ∧ σ = [] ∧ ρ = [(0, .v (.int .i64 c)), (3, .v (.bool bb))] ∧ (u = uci5)) ?_ ?_
 ·
  refine Zd (Za ?_)
  refine Zbh 6 9 (fun _ => True) (ρk := [(0, _)]) ⟨rfl, trivial⟩ ?_ fun mb1_5 hm1_5 => ?_
  ·
   refine ym rfl rfl (Zg (Zci rfl rfl rfl) rfl (ym rfl rfl ?_))
   refine Zae 6 rfl (fun hg1_2 => ?_) (fun hg1_2 => ?_)
   ·
    refine Zk rfl rfl (ym rfl rfl (Zk rfl rfl (Zg (y_leq rfl rfl rfl) rfl (Zg (Zl rfl rfl rfl) rfl ?_))))
    exact Zac rfl ⟨rfl, trivial⟩ (trivial)
   ·
    refine Zt rfl rfl rfl rfl (Zt rfl rfl rfl rfl (Zg (Zn rfl rfl rfl) rfl ?_))
    exact Zac rfl ⟨rfl, trivial⟩ (trivial)
  refine ya rfl rfl (Zf (ρ' := [(0, _), (3, _)]) ⟨rfl, rfl, trivial⟩ ?_)
  refine Zc ?_
  refine Zo rfl (fun hb1 => ?_) (fun hb1 => ?_)
  ·
   refine Zr (Zab ?_)
   refine ⟨[(0, _), (3, _)], [], ⟨rfl, rfl, trivial⟩, trivial, _, (VLe.refl _), rfl, rfl, ?_⟩
   rfl
  ·
   refine Zd (Za ?_)
   refine Zbh 10 19 (fun _ => True) (ρk := [(0, _)]) ⟨rfl, trivial⟩ ?_ fun mb2_9 hm2_9 => ?_
   ·
    refine ym rfl rfl (Zg (Zci rfl rfl rfl) rfl (ym rfl rfl ?_))
    refine Zae 12 rfl (fun hg2_2 => ?_) (fun hg2_2 => ?_)
    ·
     refine Zk rfl rfl (ym rfl rfl (Zk rfl rfl (Zg (y_leq rfl rfl rfl) rfl (Zg (Zl rfl rfl rfl) rfl (ym rfl rfl ?_)))))
     refine Zae 16 rfl (fun hg2_6 => ?_) (fun hg2_6 => ?_)
     ·
      refine Zk rfl rfl (ym rfl rfl (Zk rfl rfl (Zg (Zck rfl rfl rfl) rfl (Zg (Zl rfl rfl rfl) rfl ?_))))
      exact Zac rfl ⟨rfl, trivial⟩ (trivial)
     ·
      refine Zt rfl rfl rfl rfl (Zt rfl rfl rfl rfl (Zg (Zn rfl rfl rfl) rfl ?_))
      exact Zac rfl ⟨rfl, trivial⟩ (trivial)
    ·
     refine Zt rfl rfl rfl rfl (Zt rfl rfl rfl rfl (Zg (Zn rfl rfl rfl) rfl (ym rfl rfl (Zt rfl rfl rfl rfl (Zt rfl rfl rfl rfl (Zg (Zn rfl rfl rfl) rfl ?_))))))
     exact Zac rfl ⟨rfl, trivial⟩ (trivial)
   refine ya rfl rfl (Zf (ρ' := [(0, _), (3, _)]) ⟨rfl, rfl, trivial⟩ ?_)
   refine Zc ?_
   refine Zo rfl (fun hb2 => ?_) (fun hb2 => ?_)
   ·
    refine Zr (Zab ?_)
    refine ⟨[(0, _), (3, _)], [], ⟨rfl, rfl, trivial⟩, trivial, _, (VLe.refl _), rfl, rfl, ?_⟩
    rfl
   ·
    refine Zd (Za ?_)
    refine Zbh 10 29 (fun _ => True) (ρk := [(0, _)]) ⟨rfl, trivial⟩ ?_ fun mb3_9 hm3_9 => ?_
    ·
     refine ym rfl rfl (Zg (Zci rfl rfl rfl) rfl (ym rfl rfl ?_))
     refine Zae 22 rfl (fun hg3_2 => ?_) (fun hg3_2 => ?_)
     ·
      refine Zk rfl rfl (ym rfl rfl (Zk rfl rfl (Zg (y_leq rfl rfl rfl) rfl (Zg (Zl rfl rfl rfl) rfl (ym rfl rfl ?_)))))
      refine Zae 26 rfl (fun hg3_6 => ?_) (fun hg3_6 => ?_)
      ·
       refine Zk rfl rfl (ym rfl rfl (Zk rfl rfl (Zg (Zck rfl rfl rfl) rfl (Zg (Zl rfl rfl rfl) rfl ?_))))
       exact Zac rfl ⟨rfl, trivial⟩ (trivial)
      ·
       refine Zt rfl rfl rfl rfl (Zt rfl rfl rfl rfl (Zg (Zn rfl rfl rfl) rfl ?_))
       exact Zac rfl ⟨rfl, trivial⟩ (trivial)
     ·
      refine Zt rfl rfl rfl rfl (Zt rfl rfl rfl rfl (Zg (Zn rfl rfl rfl) rfl (ym rfl rfl (Zt rfl rfl rfl rfl (Zt rfl rfl rfl rfl (Zg (Zn rfl rfl rfl) rfl ?_))))))
      exact Zac rfl ⟨rfl, trivial⟩ (trivial)
    refine ya rfl rfl (Zf (ρ' := [(0, _), (3, _)]) ⟨rfl, rfl, trivial⟩ ?_)
    refine Zc ?_
    refine Zo rfl (fun hb3 => ?_) (fun hb3 => ?_)
    ·
     refine Zr (Zab ?_)
     refine ⟨[(0, _), (3, _)], [], ⟨rfl, rfl, trivial⟩, trivial, _, (VLe.refl _), rfl, rfl, ?_⟩
     rfl
    ·
     refine Za ?_
     refine Zbh 6 35 (fun _ => True) (ρk := [(0, _)]) ⟨rfl, trivial⟩ ?_ fun mb4_5 hm4_5 => ?_
     ·
      refine ym rfl rfl (Zg (Zci rfl rfl rfl) rfl (ym rfl rfl ?_))
      refine Zae 32 rfl (fun hg4_2 => ?_) (fun hg4_2 => ?_)
      ·
       refine Zk rfl rfl (ym rfl rfl (Zk rfl rfl (Zg (y_leq rfl rfl rfl) rfl (Zg (Zl rfl rfl rfl) rfl ?_))))
       exact Zac rfl ⟨rfl, trivial⟩ (trivial)
      ·
       refine Zt rfl rfl rfl rfl (Zt rfl rfl rfl rfl (Zg (Zn rfl rfl rfl) rfl ?_))
       exact Zac rfl ⟨rfl, trivial⟩ (trivial)
     refine ya rfl rfl (Zf (ρ' := [(0, _), (3, _)]) ⟨rfl, rfl, trivial⟩ ?_)
     refine Zab ?_
     refine ⟨[(0, _), (3, _)], [], ⟨rfl, rfl, trivial⟩, trivial, _, (VLe.refl _), rfl, rfl, ?_⟩
     rfl
 ·
  rintro ρ σ uci5 ⟨bb, hlci5, rfl, rfl, rfl⟩
  refine Zo rfl (fun hb4 => ?_) (fun hb4 => ?_)
  ·
   refine Zd (Za (ym rfl rfl (Zg (Zav rfl rfl rfl (Zs (by omega))) rfl ?_)))
   refine ya rfl rfl (Zf (ρ' := [(2, _)]) ⟨rfl, trivial⟩ ?_)
   refine Zc (Zw (Zu (Zj (Zbe (.tmp rfl) ?_))))
   exact ⟨_, rfl⟩
  ·
   refine Zd (Za ?_)
   refine Zbh 6 44 (fun _ => True) (ρk := [(0, _)]) ⟨rfl, trivial⟩ ?_ fun mb6_5 hm6_5 => ?_
   ·
    refine ym rfl rfl (Zg (Zci rfl rfl rfl) rfl (ym rfl rfl ?_))
    refine Zae 41 rfl (fun hg6_2 => ?_) (fun hg6_2 => ?_)
    ·
     refine Zk rfl rfl (ym rfl rfl (Zk rfl rfl (Zg (y_leq rfl rfl rfl) rfl (Zg (Zl rfl rfl rfl) rfl ?_))))
     exact Zac rfl ⟨rfl, trivial⟩ (trivial)
    ·
     refine Zt rfl rfl rfl rfl (Zt rfl rfl rfl rfl (Zg (Zn rfl rfl rfl) rfl ?_))
     exact Zac rfl ⟨rfl, trivial⟩ (trivial)
   refine ya rfl rfl (Zf (ρ' := [(0, _), (38, _)]) ⟨rfl, rfl, trivial⟩ ?_)
   refine Zc ?_
   refine Zo rfl (fun hb6 => ?_) (fun hb6 => ?_)
   ·
    refine Zd (Za (ym rfl rfl (Zg (Zav rfl rfl rfl (Zs (by omega))) rfl ?_)))
    refine ya rfl rfl (Zf (ρ' := [(2, _)]) ⟨rfl, trivial⟩ ?_)
    refine Zc (Zw (Zu (Zj (Zbe (.tmp rfl) ?_))))
    exact ⟨_, rfl⟩
   ·
    refine Zr (Zah (Zc (Zd (Za (ym rfl rfl (ya rfl rfl (Zf (ρ' := [(2, _)]) ⟨rfl, trivial⟩ ?_)))))))
    refine Zc (Zw (Zbe (.tmp rfl) ?_))
    exact ⟨_, rfl⟩
theorem u8c (e : Int) : ∃ c : UInt8, IntKind.u8.wrap e = (c.toNat : Int) := by
 have h : IntKind.u8.wrap e = e % 256 := by rw [IntKind.wrap_u8]
 refine ⟨UInt8.ofNat (e % 256).toNat, ?_⟩
 rw [h]
 have := Int.emod_nonneg e (show (256 : Int) ≠ 0 by decide)
 have := Int.emod_lt_of_pos e (show (0 : Int) < 256 by decide)
 rw [UInt8.toNat_ofNat']
 omega
def badC (c : Int) : Prop := c < 0 ∨ 1114111 < c ∨ 55296 ≤ c ∧ c ≤ 57343
instance (c : Int) : Decidable (badC c) := by unfold badC; exact inferInstance
def BytesR (r : Value) (u' : View) : Prop := ∃ l : Bs, l.length ≤ 4 ∧ IsSl u' r l.length 1 (bytesC l)
theorem bytes_step (c : Int) (u : View) (ih : badC c → FnP Tryz.prog 164 [.int .i64 65533] u BytesR) : FnP Tryz.prog 164 [.int .i64 c] u BytesR := by
 refine FnP.intro [.tmp 2] Tryz.func164 rfl rfl rfl ?_
 intro w0 D hw0
 refine Zd (Za (ya rfl rfl (Zf (ρ' := [(0, _)]) ⟨rfl, trivial⟩ ?_)))
 refine Zc (Zd (Zad (Zd ?_)))
 refine Zcj 3 (decide (badC c)) (ρk := [(0, _)]) ⟨rfl, trivial⟩ ?_ ?_
 ·
  refine Za (ym rfl rfl (Zg (Zbn rfl rfl rfl) rfl (ym rfl rfl ?_)))
  refine Zae 6 rfl (fun hg1_2 => ?_) (fun hg1_2 => ?_)
  ·
   refine Zt rfl rfl rfl rfl (Zt rfl rfl rfl rfl (Zg (Zl rfl rfl rfl) rfl (ym rfl rfl ?_)))
   iterate 3 refine Zt rfl rfl rfl rfl ?_
   refine Zbg rfl rfl rfl (Zbg rfl rfl rfl (Zt rfl rfl rfl rfl (Zg (Zl rfl rfl rfl) rfl (ya rfl rfl ?_))))
   exact Zam rfl ⟨rfl, trivial⟩ (by (first | refine (decide_eq_true ?_).symm | refine (decide_eq_false ?_).symm | refine decide_eq_decide.2 ?_ | refine decide_eq_true ?_ | refine decide_eq_false ?_) <;> (try unfold badC) <;> (try simp only [decide_eq_true_eq, decide_eq_false_iff_not] at *) <;> omega)
  ·
   refine Zk rfl rfl (ym rfl rfl (Zk rfl rfl (Zg (Zcn rfl rfl rfl) rfl (Zg (Zn rfl rfl rfl) rfl (ym rfl rfl ?_)))))
   refine Zae 10 rfl (fun hg1_6 => ?_) (fun hg1_6 => ?_)
   ·
    iterate 3 refine Zt rfl rfl rfl rfl ?_
    refine Zbg rfl rfl rfl (Zbg rfl rfl rfl (Zt rfl rfl rfl rfl (Zg (Zl rfl rfl rfl) rfl (ya rfl rfl ?_))))
    exact Zam rfl ⟨rfl, trivial⟩ (by (first | refine (decide_eq_true ?_).symm | refine (decide_eq_false ?_).symm | refine decide_eq_decide.2 ?_ | refine decide_eq_true ?_ | refine decide_eq_false ?_) <;> (try unfold badC) <;> (try simp only [decide_eq_true_eq, decide_eq_false_iff_not] at *) <;> omega)
   ·
    refine Zk rfl rfl (ym rfl rfl (Zk rfl rfl (Zg (Zci rfl rfl rfl) rfl (Zk rfl rfl (ym rfl rfl ?_)))))
    refine Zae 13 rfl (fun hg1_9 => ?_) (fun hg1_9 => ?_)
    ·
     refine Zk rfl rfl (ym rfl rfl (Zk rfl rfl (Zg (y_leq rfl rfl rfl) rfl (Zk rfl rfl (Zg (Zl rfl rfl rfl) rfl (Zg (Zn rfl rfl rfl) rfl (ya rfl rfl ?_)))))))
     exact Zam rfl ⟨rfl, trivial⟩ (by (first | refine (decide_eq_true ?_).symm | refine (decide_eq_false ?_).symm | refine decide_eq_decide.2 ?_ | refine decide_eq_true ?_ | refine decide_eq_false ?_) <;> (try unfold badC) <;> (try simp only [decide_eq_true_eq, decide_eq_false_iff_not] at *) <;> omega)
    ·
     refine Zt rfl rfl rfl rfl (Zt rfl rfl rfl rfl (Zk rfl rfl (Zg (Zn rfl rfl rfl) rfl (Zg (Zn rfl rfl rfl) rfl (ya rfl rfl ?_)))))
     exact Zam rfl ⟨rfl, trivial⟩ (by (first | refine (decide_eq_true ?_).symm | refine (decide_eq_false ?_).symm | refine decide_eq_decide.2 ?_ | refine decide_eq_true ?_ | refine decide_eq_false ?_) <;> (try unfold badC) <;> (try simp only [decide_eq_true_eq, decide_eq_false_iff_not] at *) <;> omega)
 refine Zc ?_
 refine Zo rfl (fun hb1 => ?_) (fun hb1 => ?_)
 ·
  have hbad := of_decide_eq_true hb1
  refine Zd (Za (Zv rfl rfl ?_))
  refine Zbm (caps := []) trivial rfl rfl Tryz.c164 rfl (FnP.mono (ih hbad) ?_)
  rintro v u1 hle0 hr hle1
  refine ya rfl rfl (Zf (ρ' := [(2, _)]) ⟨rfl, trivial⟩ ?_)
  refine Zc (Zw (Zu (Zj (Zbe (.tmp rfl) ?_))))
  exact hr
 ·
  have hnb := of_decide_eq_false hb1; unfold badC at hnb
  refine Zd (Za (ym rfl rfl (Zg (Zbn rfl rfl rfl) rfl (ya rfl rfl (Zf (ρ' := [(0, _), (19, _)]) ⟨rfl, rfl, trivial⟩ ?_)))))
  refine Zc ?_
  refine Zo rfl (fun hb3 => ?_) (fun hb3 => ?_)
  ·
   refine Zd (Za (ym rfl rfl (Zg (y_conv rfl Tryz.u3 Tryz.u5 rfl rfl) rfl (Zv rfl rfl ?_))))
   refine Zak trivial Tryz.s141 Tryz.z5 (ps := [(_, _)]) rfl (xs := [_]) rfl rfl rfl rfl rfl rfl rfl ?_
   refine Zbo 24 rfl ?_
   intro ad24 cap24 u24 hle24z hsl24
   refine ya rfl rfl (Zf (ρ' := [(2, _)]) ⟨rfl, trivial⟩ ?_)
   refine Zc (Zw (Zu (Zj (Zbe (.tmp rfl) ?_))))
   obtain ⟨c1, h1⟩ := u8c c
   rw [h1] at hsl24
   exact ⟨[c1], by simp, ⟨_, _, rfl, hsl24⟩⟩
  ·
   refine Zd (Za (ym rfl rfl (Zg (Zbn rfl rfl rfl) rfl (ya rfl rfl (Zf (ρ' := [(0, _), (25, _)]) ⟨rfl, rfl, trivial⟩ ?_)))))
   refine Zc ?_
   refine Zo rfl (fun hb5 => ?_) (fun hb5 => ?_)
   ·
    refine Zd (Za (ym rfl rfl (Zg (y_quoE rfl rfl rfl (by omega) (by omega) (by omega)) rfl (Zg (Zav rfl rfl rfl (Zs (by omega))) rfl ?_))))
    refine Zg (y_conv rfl Tryz.u3 Tryz.u5 rfl rfl) rfl (ym rfl rfl (Zg (y_remE rfl rfl rfl (by omega) (by omega)) rfl (Zg (Zav rfl rfl rfl (Zs (by omega))) rfl ?_)))
    refine Zg (y_conv rfl Tryz.u3 Tryz.u5 rfl rfl) rfl (Zv rfl rfl ?_)
    refine Zak trivial Tryz.s141 Tryz.z5 (ps := [(_, _), (_, _)]) rfl (xs := [_, _]) rfl rfl rfl rfl rfl rfl rfl ?_
    refine Zbo 36 rfl ?_
    intro ad36 cap36 u36 hle36z hsl36
    refine ya rfl rfl (Zf (ρ' := [(2, _)]) ⟨rfl, trivial⟩ ?_)
    refine Zc (Zw (Zu (Zj (Zbe (.tmp rfl) ?_))))
    obtain ⟨c1, h1⟩ := u8c (192 + c / 64)
    obtain ⟨c2, h2⟩ := u8c (128 + c % 64)
    rw [h1, h2] at hsl36
    exact ⟨[c1, c2], by simp, ⟨_, _, rfl, hsl36⟩⟩
   ·
    refine Zd (Za (ym rfl rfl (Zg (Zbn rfl rfl rfl) rfl (ya rfl rfl (Zf (ρ' := [(0, _), (37, _)]) ⟨rfl, rfl, trivial⟩ ?_)))))
    refine Zc ?_
    refine Zo rfl (fun hb7 => ?_) (fun hb7 => ?_)
    ·
     refine Zd (Za (ym rfl rfl (Zg (y_quoE rfl rfl rfl (by omega) (by omega) (by omega)) rfl (Zg (Zav rfl rfl rfl (Zs (by omega))) rfl ?_))))
     refine Zg (y_conv rfl Tryz.u3 Tryz.u5 rfl rfl) rfl (ym rfl rfl (Zg (y_quoE rfl rfl rfl (by omega) (by omega) (by omega)) rfl (Zg (y_remE rfl rfl rfl (by omega) (by omega)) rfl (Zg (Zav rfl rfl rfl (Zs (by omega))) rfl ?_))))
     refine Zg (y_conv rfl Tryz.u3 Tryz.u5 rfl rfl) rfl (ym rfl rfl (Zg (y_remE rfl rfl rfl (by omega) (by omega)) rfl (Zg (Zav rfl rfl rfl (Zs (by omega))) rfl ?_)))
     refine Zg (y_conv rfl Tryz.u3 Tryz.u5 rfl rfl) rfl (Zv rfl rfl ?_)
     refine Zak trivial Tryz.s141 Tryz.z5 (ps := [(_, _), (_, _), (_, _)]) rfl (xs := [_, _, _]) rfl rfl rfl rfl rfl rfl rfl ?_
     refine Zbo 53 rfl ?_
     intro ad53 cap53 u53 hle53z hsl53
     refine ya rfl rfl (Zf (ρ' := [(2, _)]) ⟨rfl, trivial⟩ ?_)
     refine Zc (Zw (Zu (Zj (Zbe (.tmp rfl) ?_))))
     obtain ⟨c1, h1⟩ := u8c (224 + c / 4096)
     obtain ⟨c2, h2⟩ := u8c (128 + c / 64 % 64)
     obtain ⟨c3, h3⟩ := u8c (128 + c % 64)
     rw [h1, h2, h3] at hsl53
     exact ⟨[c1, c2, c3], by simp, ⟨_, _, rfl, hsl53⟩⟩
    ·
     refine Zr (Zah (Zc (Zd (Za (ym rfl rfl (Zg (y_quoE rfl rfl rfl (by omega) (by omega) (by omega)) rfl (Zg (Zav rfl rfl rfl (Zs (by omega))) rfl ?_)))))))
     refine Zg (y_conv rfl Tryz.u3 Tryz.u5 rfl rfl) rfl (ym rfl rfl (Zg (y_quoE rfl rfl rfl (by omega) (by omega) (by omega)) rfl (Zg (y_remE rfl rfl rfl (by omega) (by omega)) rfl (Zg (Zav rfl rfl rfl (Zs (by omega))) rfl ?_))))
     refine Zg (y_conv rfl Tryz.u3 Tryz.u5 rfl rfl) rfl (ym rfl rfl (Zg (y_quoE rfl rfl rfl (by omega) (by omega) (by omega)) rfl (Zg (y_remE rfl rfl rfl (by omega) (by omega)) rfl (Zg (Zav rfl rfl rfl (Zs (by omega))) rfl ?_))))
     refine Zg (y_conv rfl Tryz.u3 Tryz.u5 rfl rfl) rfl (ym rfl rfl (Zg (y_remE rfl rfl rfl (by omega) (by omega)) rfl (Zg (Zav rfl rfl rfl (Zs (by omega))) rfl ?_)))
     refine Zg (y_conv rfl Tryz.u3 Tryz.u5 rfl rfl) rfl (Zv rfl rfl ?_)
     refine Zak trivial Tryz.s141 Tryz.z5 (ps := [(_, _), (_, _), (_, _), (_, _)]) rfl (xs := [_, _, _, _]) rfl rfl rfl rfl rfl rfl rfl ?_
     refine Zbo 72 rfl ?_
     intro ad72 cap72 u72 hle72z hsl72
     refine ya rfl rfl (Zf (ρ' := [(2, _)]) ⟨rfl, trivial⟩ ?_)
     refine Zc (Zw (Zbe (.tmp rfl) ?_))
     obtain ⟨c1, h1⟩ := u8c (240 + c / 262144)
     obtain ⟨c2, h2⟩ := u8c (128 + c / 4096 % 64)
     obtain ⟨c3, h3⟩ := u8c (128 + c / 64 % 64)
     obtain ⟨c4, h4⟩ := u8c (128 + c % 64)
     rw [h1, h2, h3, h4] at hsl72
     exact ⟨[c1, c2, c3, c4], by simp, ⟨_, _, rfl, hsl72⟩⟩
theorem bytes_fn (c : Int) (u : View) : FnP Tryz.prog 164 [.int .i64 c] u BytesR :=
 bytes_step c u fun _ => bytes_step 65533 u fun h => absurd h (by decide)
theorem ktext_fn (l : List Int) (hl : l.length ≤ 200000000) (v : Value) (u : View) (h : IsSl u v l.length 1 (intsC l)) : FnP Tryz.prog 158 [v] u fun r _ => ∃ s : Bs, r = str s := by
 obtain ⟨ad, cap, rfl, h1⟩ := h
 refine FnP.intro [.tmp 2] Tryz.func158 rfl rfl rfl ?_
 intro w0 D hw0
 refine Zd (Za (ya rfl rfl (Zf (ρ' := [(0, _)]) ⟨rfl, trivial⟩ ?_)))
 refine Zc (Zd (Za (ya rfl rfl ?_)))
 refine Zch 3 503 5 1 rfl rfl rfl ?_
 refine Zf (ρ' := [(0, _), (3, _)]) ⟨rfl, rfl, trivial⟩ ?_
 refine Zc (Zd (Zd (Za (ym rfl rfl (Zg (Zaq rfl rfl Tryz.s158 rfl) rfl (ym rfl rfl (Zf (ρ' := [(3, _), (6, _), (7, _), (8, _)]) ⟨rfl, rfl, rfl, rfl, trivial⟩ ?_)))))))
 refine Zc (Zad ?_)
 refine Zbc (fun m ρ σ u' => ∃ i : Nat, i + m = l.length ∧ VLe u u' ∧ ∃ (w : Bs), σ = [(503, (none, .row 5 1 w.length (bytesC w)))] ∧ ρ = [(3, .s 503), (6, .v (.slice ad l.length cap)), (7, .v (.int .i64 l.length)), (8, .v (.int .i64 i))] ∧ (w.length ≤ 4 * i)) (l.length) ?_ ?_
 ·
  refine ⟨[(3, _), (6, _), (7, _), (8, _)], [(503, _)], ⟨rfl, rfl, rfl, rfl, trivial⟩, ⟨rfl, trivial⟩, 0, by omega, VLe.refl _, [], rfl, rfl, ?_⟩
  exact Nat.le_refl _
 ·
  rintro m ρ σ u' ⟨i, hi3, hle3, w, rfl, rfl, hwl⟩
  refine Zd (Za (Zg (Zbn rfl rfl rfl) rfl (Zf (ρ' := [(3, _), (6, _), (7, _), (8, _), (9, _)]) ⟨rfl, rfl, rfl, rfl, rfl, trivial⟩ ?_)))
  refine Zc (Zd ?_)
  refine Zo rfl (fun hb3 => ?_) (fun hb3 => ?_)
  ·
   have hlt : i < l.length := by have := of_decide_eq_true hb3; omega
   have h1 := h1.mono hle3
   have hcc := cut_intsC (List.getElem?_eq_getElem hlt)
   refine Zr (Zc (Zd (Zad (Zd (Za (Zg (Zai rfl Tryz.s158 rfl rfl (by assumption) (by first | rfl | omega) (by omega)) rfl (Zg (Zag rfl Tryz.k3 rfl (by assumption) (by omega) (by assumption) (vs := [_]) rfl rfl rfl rfl) rfl ?_)))))))
   refine ya rfl rfl (Zf (ρ' := [(3, _), (5, _), (6, _), (7, _), (8, _)]) ⟨rfl, rfl, rfl, rfl, rfl, trivial⟩ ?_)
   refine Zc (Za (ym rfl rfl (ym rfl rfl (Zv rfl rfl ?_))))
   refine Zbm (caps := []) trivial rfl rfl Tryz.c164 rfl (FnP.mono (bytes_fn _ _) ?_)
   rintro v uB hle0 ⟨bl, hbl, ⟨bad', bcap, rfl, hb1'⟩⟩ hleB
   refine Zv rfl rfl ?_
   refine Zcp trivial rfl rfl Tryz.s141 Tryz.z5 rfl rfl rfl rfl rfl (by assumption) (by simp [bytesC, Lib.byteCells, Value.oneCell']) (by omega) (by omega) (ρ' := [(6, _), (7, _), (8, _)]) ⟨rfl, rfl, rfl, trivial⟩ rfl rfl rfl ?_
   refine ya rfl rfl ?_
   refine rl_ren 15 503 rfl rfl rfl ?_
   refine Zf (ρ' := [(3, _), (6, _), (7, _), (8, _)]) ⟨rfl, rfl, rfl, rfl, trivial⟩ ?_
   refine Zah (Zc (Za (Zg (Zav rfl rfl rfl (Zs (by omega))) rfl ?_)))
   refine ym rfl rfl (Zf (ρ' := [(3, _), (6, _), (7, _), (8, _)]) ⟨rfl, rfl, rfl, rfl, trivial⟩ ?_)
   refine Zab ?_
   refine ⟨m - 1, [(3, _), (6, _), (7, _), (8, _)], [(503, _)], by omega, ⟨rfl, rfl, rfl, rfl, trivial⟩, ⟨rfl, trivial⟩, i + 1, by omega, (hle3.trans hleB), w ++ bl, (by rw [List.length_append, bytesC_append]), rfl, ?_⟩
   rw [List.length_append]; omega
  ·
   skip
   refine Zax ?_
   refine Zq (Zq ?_)
   refine Zaf ?_
   refine Zc (Zd (Za (ym rfl rfl (Zg (y_convBS_s rfl Tryz.s141 Tryz.u5 Tryz.str9 rfl rfl rfl rfl) rfl (ya rfl rfl (Zf (ρ' := [(2, _)]) ⟨rfl, trivial⟩ ?_))))))
   refine Zc (Zw (Zbe (.tmp rfl) ?_))
   exact ⟨_, rfl⟩
theorem intsC_append (a b : List Int) : intsC (a ++ b) = intsC a ++ intsC b := by simp [intsC]
theorem fold_fn (s : Bs) (hs : s.length ≤ 10000000) (u : View) : FnP Tryz.prog 142 [str s] u fun r _ => ∃ t : Bs, r = str t := by
 refine FnP.intro [.tmp 2] Tryz.func142 rfl rfl rfl ?_
 intro w0 D hw0
 refine Zd (Za (ya rfl rfl (Zf (ρ' := [(0, _)]) ⟨rfl, trivial⟩ ?_)))
 refine Zc (Zd (Za (ya rfl rfl ?_)))
 refine Zch 3 503 3 1 rfl rfl rfl ?_
 refine Zf (ρ' := [(0, _), (3, _)]) ⟨rfl, rfl, trivial⟩ ?_
 refine Zc (Zd (Za (ya rfl rfl (Zf (ρ' := [(0, _), (3, _), (4, _)]) ⟨rfl, rfl, rfl, trivial⟩ ?_))))
 refine Zc (Zd (Zd (Za (ym rfl rfl (Zv rfl rfl ?_)))))
 refine Zbm (caps := []) trivial rfl rfl Tryz.c95 rfl (FnP.mono (kpoints_fn s (by omega) u) ?_)
 rintro v uP hle0 ⟨l, ⟨ad, cap, rfl, h1⟩, hl, hlb⟩ hleP
 refine Zg (Zaq rfl rfl Tryz.s132 rfl) rfl (ym rfl rfl (Zf (ρ' := [(3, _), (4, _), (8, _), (9, _), (10, _)]) ⟨rfl, rfl, rfl, rfl, rfl, trivial⟩ ?_))
 refine Zc (Zad ?_)
 refine Zbc (fun m ρ σ u' => ∃ i : Nat, i + m = l.length ∧ VLe uP u' ∧ ∃ (gp : Bool) (w : List Int), σ = [(503, (none, .row 3 1 w.length (intsC w)))] ∧ ρ = [(3, .s 503), (4, .v (.bool gp)), (8, .v (.slice ad l.length cap)), (9, .v (.int .i64 l.length)), (10, .v (.int .i64 i))] ∧ (uP = u' ∧ w.length ≤ 2 * i)) (l.length) ?_ ?_
 ·
  refine ⟨[(3, _), (4, _), (8, _), (9, _), (10, _)], [(503, _)], ⟨rfl, rfl, rfl, rfl, rfl, trivial⟩, ⟨rfl, trivial⟩, 0, by omega, VLe.refl _, false, [], rfl, rfl, ?_⟩
  exact ⟨rfl, Nat.le_refl _⟩
 ·
  rintro m ρ σ u' ⟨i, hi4, hle4, gp, w, rfl, rfl, ⟨rfl, hwl⟩⟩
  refine Zd (Za (Zg (Zbn rfl rfl rfl) rfl (Zf (ρ' := [(3, _), (4, _), (8, _), (9, _), (10, _), (11, _)]) ⟨rfl, rfl, rfl, rfl, rfl, rfl, trivial⟩ ?_)))
  refine Zc (Zd ?_)
  refine Zo rfl (fun hb4 => ?_) (fun hb4 => ?_)
  ·
   have hlt : i < l.length := by have := of_decide_eq_true hb4; omega
   have hcc := cut_ptsC (List.getElem?_eq_getElem hlt)
   have hbig := hlb _ (List.getElem_mem hlt)
   refine Zr (Zc (Zd (Zad (Zd (Za (Zg (Zai rfl Tryz.s132 rfl rfl (by assumption) (by first | rfl | omega) (by omega)) rfl (Zg (Zag rfl Tryz.k135 rfl (by assumption) (by omega) (by assumption) (vs := [_, _]) rfl rfl rfl rfl) rfl (Zv rfl rfl ?_))))))))
   refine Zas trivial Tryz.z135 rfl rfl rfl ?_
   refine Zv rfl rfl ?_
   refine Zm trivial rfl Tryz.k135 rfl rfl rfl (vs := [_, _]) rfl rfl (by first | rfl | assumption | simp [Value.oneCell', str]) (Nat.le_of_ble_eq_true rfl) rfl ?_
   refine Zf (ρ' := [(3, _), (4, _), (6, _), (8, _), (9, _), (10, _)]) ⟨rfl, rfl, rfl, rfl, rfl, rfl, trivial⟩ ?_
   refine Zc (Zd (Zd (Za (Zg (Zh rfl Tryz.f135' rfl (by decide) rfl) rfl (Zg (Zi rfl Tryz.k3 rfl rfl rfl (vs := [_]) rfl rfl rfl) rfl (Zv rfl rfl ?_))))))
   refine Zaa (caps := []) trivial rfl rfl Tryz.c156 rfl (FnP.mono (space_fn _ _) ?_)
   rintro v u1 hle1 ⟨b, rfl⟩
   refine Zf (ρ' := [(3, _), (4, _), (6, _), (8, _), (9, _), (10, _), (16, _)]) ⟨rfl, rfl, rfl, rfl, rfl, rfl, rfl, trivial⟩ ?_
   refine Zc ?_
   refine Zo rfl (fun hb6 => ?_) (fun hb6 => ?_)
   ·
    refine Zd (Za (ya rfl rfl (Zf (ρ' := [(3, _), (4, _), (8, _), (9, _), (10, _)]) ⟨rfl, rfl, rfl, rfl, rfl, trivial⟩ ?_)))
    refine Zc ?_
    refine Zax ?_
    refine Zq ?_
    refine Zaf ?_
    refine Zc (Za (Zg (Zav rfl rfl rfl (Zs (by omega))) rfl ?_))
    refine ym rfl rfl (Zf (ρ' := [(3, _), (4, _), (8, _), (9, _), (10, _)]) ⟨rfl, rfl, rfl, rfl, rfl, trivial⟩ ?_)
    refine Zab ?_
    first
    | (refine ⟨m - 1, [(3, _), (4, _), (8, _), (9, _), (10, _)], [(503, _)], by omega, ⟨rfl, rfl, rfl, rfl, rfl, trivial⟩, ⟨rfl, trivial⟩, i + 1, by omega, hle4, false, w2 ++ [z], (by rw [List.length_append, intsC_append]; rfl), rfl, rfl, by rw [List.length_append]; simp; omega⟩)
    | (refine ⟨m - 1, [(3, _), (4, _), (8, _), (9, _), (10, _)], [(503, _)], by omega, ⟨rfl, rfl, rfl, rfl, rfl, trivial⟩, ⟨rfl, trivial⟩, i + 1, by omega, hle4, true, w, rfl, rfl, rfl, by omega⟩)
   ·
    refine Zr (Zc (Zd (Zd (Za (ym rfl rfl (ym rfl rfl ?_))))))
    refine Zae 18 rfl (fun hg8_1 => ?_) (fun hg8_1 => ?_)
    ·
     refine Zk rfl rfl (ym rfl rfl (Zk rfl rfl (Zg (y_len_s rfl rfl Tryz.s158 rfl rfl) rfl (Zk rfl rfl (Zg (Zcn rfl rfl rfl) rfl (Zg (Zl rfl rfl rfl) rfl (Zf (ρ' := [(3, _), (6, _), (8, _), (9, _), (10, _), (22, _)]) ⟨rfl, rfl, rfl, rfl, rfl, rfl, trivial⟩ ?_)))))))
     refine Zc ?_
     refine Zo rfl (fun hb8 => ?_) (fun hb8 => ?_)
     ·
      refine Za (ym rfl rfl (Zv rfl rfl ?_))
      refine Zak trivial Tryz.s158 Tryz.z3 (ps := [(_, _)]) rfl (xs := [_]) rfl rfl rfl rfl rfl rfl rfl ?_
      refine Zv rfl rfl ?_
      refine Zby trivial rfl rfl Tryz.s158 Tryz.z3 rfl rfl rfl rfl rfl rfl (by first | rfl | assumption | simp [Value.oneCell', str]) (by omega) (by omega) (ρ' := [(6, _), (8, _), (9, _), (10, _)]) ⟨rfl, rfl, rfl, rfl, trivial⟩ rfl rfl rfl ?_
      refine ya rfl rfl ?_
      refine rl_ren 25 503 rfl rfl rfl ?_
      refine Zf (ρ' := [(3, _), (6, _), (8, _), (9, _), (10, _)]) ⟨rfl, rfl, rfl, rfl, rfl, trivial⟩ ?_
      refine Zc ?_
      refine Zbu (fun ρ σ uc11 => ∃ (w2 : List Int), VLe uP uc11 ∧ σ = [(503, (none, .row 3 1 w2.length (intsC w2))), (6, (none, .box [.int .i64 (l[i]).1, .int .i64 (l[i]).2]))] ∧ ρ = [(3, .s 503), (6, .p 6 0), (8, .v (.slice ad l.length cap)), (9, .v (.int .i64 l.length)), (10, .v (.int .i64 i)), (4, .v (.bool false))] ∧ (uP = uc11 ∧ w2.length ≤ 2 * i + 1)) ?_ ?_
      ·
       refine Za (ya rfl rfl (Zf (ρ' := [(3, _), (4, _), (6, _), (8, _), (9, _), (10, _)]) ⟨rfl, rfl, rfl, rfl, rfl, rfl, trivial⟩ ?_))
       refine Zab ?_
       first
        | (refine ⟨[(3, _), (6, _), (8, _), (9, _), (10, _), (4, _)], [(503, _), (6, _)], ⟨rfl, rfl, rfl, rfl, rfl, rfl, trivial⟩, ⟨rfl, rfl, trivial⟩, w ++ [32], (VLe.refl _), (by first | rfl | (rw [List.length_append, intsC_append]; rfl)), rfl, ?_⟩
           exact ⟨rfl, by rw [List.length_append]; simp; omega⟩)
        | (refine ⟨[(3, _), (6, _), (8, _), (9, _), (10, _), (4, _)], [(503, _), (6, _)], ⟨rfl, rfl, rfl, rfl, rfl, rfl, trivial⟩, ⟨rfl, rfl, trivial⟩, w, (VLe.refl _), (by first | rfl | (rw [List.length_append, intsC_append]; rfl)), rfl, ?_⟩
           exact ⟨rfl, by omega⟩)
      ·
       rintro ρ σ uc11 ⟨w2, hlc11, rfl, rfl, ⟨rfl, hw2⟩⟩
       refine Za (ym rfl rfl (Zg (Zh rfl Tryz.f135' rfl (by decide) rfl) rfl (Zg (Zi rfl Tryz.k3 rfl rfl rfl (vs := [_]) rfl rfl rfl) rfl (Zv rfl rfl ?_))))
       refine Zaa (caps := []) trivial rfl rfl Tryz.c157 rfl (FnP.mono (lowerC_fn _ hbig _) ?_)
       rintro v u1 hle1 ⟨z, rfl⟩
       refine Zv rfl rfl ?_
       refine Zak trivial Tryz.s158 Tryz.z3 (ps := [(_, _)]) rfl (xs := [_]) rfl rfl rfl rfl rfl rfl rfl ?_
       refine Zv rfl rfl ?_
       refine Zby trivial rfl rfl Tryz.s158 Tryz.z3 rfl rfl rfl rfl rfl rfl (by first | rfl | assumption | simp [Value.oneCell', str]) (by omega) (by omega) (ρ' := [(4, _), (8, _), (9, _), (10, _)]) ⟨rfl, rfl, rfl, rfl, trivial⟩ rfl rfl rfl ?_
       refine ya rfl rfl ?_
       refine rl_ren 31 503 rfl rfl rfl ?_
       refine Zf (ρ' := [(3, _), (4, _), (8, _), (9, _), (10, _)]) ⟨rfl, rfl, rfl, rfl, rfl, trivial⟩ ?_
       refine Zah (Zc (Za (Zg (Zav rfl rfl rfl (Zs (by omega))) rfl ?_)))
       refine ym rfl rfl (Zf (ρ' := [(3, _), (4, _), (8, _), (9, _), (10, _)]) ⟨rfl, rfl, rfl, rfl, rfl, trivial⟩ ?_)
       refine Zab ?_
       first
       | (refine ⟨m - 1, [(3, _), (4, _), (8, _), (9, _), (10, _)], [(503, _)], by omega, ⟨rfl, rfl, rfl, rfl, rfl, trivial⟩, ⟨rfl, trivial⟩, i + 1, by omega, hle4, false, w2 ++ [z], (by rw [List.length_append, intsC_append]; rfl), rfl, rfl, by rw [List.length_append]; simp; omega⟩)
       | (refine ⟨m - 1, [(3, _), (4, _), (8, _), (9, _), (10, _)], [(503, _)], by omega, ⟨rfl, rfl, rfl, rfl, rfl, trivial⟩, ⟨rfl, trivial⟩, i + 1, by omega, hle4, true, w, rfl, rfl, rfl, by omega⟩)
     ·
      refine Zr (Zc ?_)
      refine Zbu (fun ρ σ uc11 => ∃ (w2 : List Int), VLe uP uc11 ∧ σ = [(503, (none, .row 3 1 w2.length (intsC w2))), (6, (none, .box [.int .i64 (l[i]).1, .int .i64 (l[i]).2]))] ∧ ρ = [(3, .s 503), (6, .p 6 0), (8, .v (.slice ad l.length cap)), (9, .v (.int .i64 l.length)), (10, .v (.int .i64 i)), (4, .v (.bool false))] ∧ (uP = uc11 ∧ w2.length ≤ 2 * i + 1)) ?_ ?_
      ·
       refine Za (ya rfl rfl (Zf (ρ' := [(3, _), (4, _), (6, _), (8, _), (9, _), (10, _)]) ⟨rfl, rfl, rfl, rfl, rfl, rfl, trivial⟩ ?_))
       refine Zab ?_
       first
        | (refine ⟨[(3, _), (6, _), (8, _), (9, _), (10, _), (4, _)], [(503, _), (6, _)], ⟨rfl, rfl, rfl, rfl, rfl, rfl, trivial⟩, ⟨rfl, rfl, trivial⟩, w ++ [32], (VLe.refl _), (by first | rfl | (rw [List.length_append, intsC_append]; rfl)), rfl, ?_⟩
           exact ⟨rfl, by rw [List.length_append]; simp; omega⟩)
        | (refine ⟨[(3, _), (6, _), (8, _), (9, _), (10, _), (4, _)], [(503, _), (6, _)], ⟨rfl, rfl, rfl, rfl, rfl, rfl, trivial⟩, ⟨rfl, rfl, trivial⟩, w, (VLe.refl _), (by first | rfl | (rw [List.length_append, intsC_append]; rfl)), rfl, ?_⟩
           exact ⟨rfl, by omega⟩)
      ·
       rintro ρ σ uc11 ⟨w2, hlc11, rfl, rfl, ⟨rfl, hw2⟩⟩
       refine Za (ym rfl rfl (Zg (Zh rfl Tryz.f135' rfl (by decide) rfl) rfl (Zg (Zi rfl Tryz.k3 rfl rfl rfl (vs := [_]) rfl rfl rfl) rfl (Zv rfl rfl ?_))))
       refine Zaa (caps := []) trivial rfl rfl Tryz.c157 rfl (FnP.mono (lowerC_fn _ hbig _) ?_)
       rintro v u1 hle1 ⟨z, rfl⟩
       refine Zv rfl rfl ?_
       refine Zak trivial Tryz.s158 Tryz.z3 (ps := [(_, _)]) rfl (xs := [_]) rfl rfl rfl rfl rfl rfl rfl ?_
       refine Zv rfl rfl ?_
       refine Zby trivial rfl rfl Tryz.s158 Tryz.z3 rfl rfl rfl rfl rfl rfl (by first | rfl | assumption | simp [Value.oneCell', str]) (by omega) (by omega) (ρ' := [(4, _), (8, _), (9, _), (10, _)]) ⟨rfl, rfl, rfl, rfl, trivial⟩ rfl rfl rfl ?_
       refine ya rfl rfl ?_
       refine rl_ren 31 503 rfl rfl rfl ?_
       refine Zf (ρ' := [(3, _), (4, _), (8, _), (9, _), (10, _)]) ⟨rfl, rfl, rfl, rfl, rfl, trivial⟩ ?_
       refine Zah (Zc (Za (Zg (Zav rfl rfl rfl (Zs (by omega))) rfl ?_)))
       refine ym rfl rfl (Zf (ρ' := [(3, _), (4, _), (8, _), (9, _), (10, _)]) ⟨rfl, rfl, rfl, rfl, rfl, trivial⟩ ?_)
       refine Zab ?_
       first
       | (refine ⟨m - 1, [(3, _), (4, _), (8, _), (9, _), (10, _)], [(503, _)], by omega, ⟨rfl, rfl, rfl, rfl, rfl, trivial⟩, ⟨rfl, trivial⟩, i + 1, by omega, hle4, false, w2 ++ [z], (by rw [List.length_append, intsC_append]; rfl), rfl, rfl, by rw [List.length_append]; simp; omega⟩)
       | (refine ⟨m - 1, [(3, _), (4, _), (8, _), (9, _), (10, _)], [(503, _)], by omega, ⟨rfl, rfl, rfl, rfl, rfl, trivial⟩, ⟨rfl, trivial⟩, i + 1, by omega, hle4, true, w, rfl, rfl, rfl, by omega⟩)
    ·
     iterate 3 refine Zt rfl rfl rfl rfl ?_
     refine Zg (Zn rfl rfl rfl) rfl (Zf (ρ' := [(3, _), (6, _), (8, _), (9, _), (10, _), (22, _)]) ⟨rfl, rfl, rfl, rfl, rfl, rfl, trivial⟩ ?_)
     refine Zc (Zce rfl (rfl) (Zr (Zc ?_)))
     refine Zbu (fun ρ σ uc11 => ∃ (w2 : List Int), VLe uP uc11 ∧ σ = [(503, (none, .row 3 1 w2.length (intsC w2))), (6, (none, .box [.int .i64 (l[i]).1, .int .i64 (l[i]).2]))] ∧ ρ = [(3, .s 503), (6, .p 6 0), (8, .v (.slice ad l.length cap)), (9, .v (.int .i64 l.length)), (10, .v (.int .i64 i)), (4, .v (.bool false))] ∧ (uP = uc11 ∧ w2.length ≤ 2 * i + 1)) ?_ ?_
     ·
      refine Za (ya rfl rfl (Zf (ρ' := [(3, _), (4, _), (6, _), (8, _), (9, _), (10, _)]) ⟨rfl, rfl, rfl, rfl, rfl, rfl, trivial⟩ ?_))
      refine Zab ?_
      first
       | (refine ⟨[(3, _), (6, _), (8, _), (9, _), (10, _), (4, _)], [(503, _), (6, _)], ⟨rfl, rfl, rfl, rfl, rfl, rfl, trivial⟩, ⟨rfl, rfl, trivial⟩, w ++ [32], (VLe.refl _), (by first | rfl | (rw [List.length_append, intsC_append]; rfl)), rfl, ?_⟩
          exact ⟨rfl, by rw [List.length_append]; simp; omega⟩)
       | (refine ⟨[(3, _), (6, _), (8, _), (9, _), (10, _), (4, _)], [(503, _), (6, _)], ⟨rfl, rfl, rfl, rfl, rfl, rfl, trivial⟩, ⟨rfl, rfl, trivial⟩, w, (VLe.refl _), (by first | rfl | (rw [List.length_append, intsC_append]; rfl)), rfl, ?_⟩
          exact ⟨rfl, by omega⟩)
     ·
      rintro ρ σ uc11 ⟨w2, hlc11, rfl, rfl, ⟨rfl, hw2⟩⟩
      refine Za (ym rfl rfl (Zg (Zh rfl Tryz.f135' rfl (by decide) rfl) rfl (Zg (Zi rfl Tryz.k3 rfl rfl rfl (vs := [_]) rfl rfl rfl) rfl (Zv rfl rfl ?_))))
      refine Zaa (caps := []) trivial rfl rfl Tryz.c157 rfl (FnP.mono (lowerC_fn _ hbig _) ?_)
      rintro v u1 hle1 ⟨z, rfl⟩
      refine Zv rfl rfl ?_
      refine Zak trivial Tryz.s158 Tryz.z3 (ps := [(_, _)]) rfl (xs := [_]) rfl rfl rfl rfl rfl rfl rfl ?_
      refine Zv rfl rfl ?_
      refine Zby trivial rfl rfl Tryz.s158 Tryz.z3 rfl rfl rfl rfl rfl rfl (by first | rfl | assumption | simp [Value.oneCell', str]) (by omega) (by omega) (ρ' := [(4, _), (8, _), (9, _), (10, _)]) ⟨rfl, rfl, rfl, rfl, trivial⟩ rfl rfl rfl ?_
      refine ya rfl rfl ?_
      refine rl_ren 31 503 rfl rfl rfl ?_
      refine Zf (ρ' := [(3, _), (4, _), (8, _), (9, _), (10, _)]) ⟨rfl, rfl, rfl, rfl, rfl, trivial⟩ ?_
      refine Zah (Zc (Za (Zg (Zav rfl rfl rfl (Zs (by omega))) rfl ?_)))
      refine ym rfl rfl (Zf (ρ' := [(3, _), (4, _), (8, _), (9, _), (10, _)]) ⟨rfl, rfl, rfl, rfl, rfl, trivial⟩ ?_)
      refine Zab ?_
      first
      | (refine ⟨m - 1, [(3, _), (4, _), (8, _), (9, _), (10, _)], [(503, _)], by omega, ⟨rfl, rfl, rfl, rfl, rfl, trivial⟩, ⟨rfl, trivial⟩, i + 1, by omega, hle4, false, w2 ++ [z], (by rw [List.length_append, intsC_append]; rfl), rfl, rfl, by rw [List.length_append]; simp; omega⟩)
      | (refine ⟨m - 1, [(3, _), (4, _), (8, _), (9, _), (10, _)], [(503, _)], by omega, ⟨rfl, rfl, rfl, rfl, rfl, trivial⟩, ⟨rfl, trivial⟩, i + 1, by omega, hle4, true, w, rfl, rfl, rfl, by omega⟩)
  ·
   skip
   refine Zax ?_
   refine Zq (Zq ?_)
   refine Zaf ?_
   refine Zc (Zd (Za (ym rfl rfl ?_)))
   refine Zbo 503 rfl ?_
   intro ad503 cap503 u503 hle503z hsl503
   refine Zv rfl rfl ?_
   refine Zaa (caps := []) trivial rfl rfl Tryz.c158 rfl (FnP.mono (ktext_fn w (by omega) _ u503 ⟨_, _, rfl, hsl503⟩) ?_)
   rintro v u1 hle1 ⟨t, rfl⟩
   refine ya rfl rfl (Zf (ρ' := [(2, _)]) ⟨rfl, trivial⟩ ?_)
   refine Zc (Zw (Zbe (.tmp rfl) ?_))
   exact ⟨_, rfl⟩
end Go.Proofs.Ythkgcakpjknlbaa
namespace Go.Eng
open Go Go.RowKit
section
variable {F : Fx} {ρ : Env} {σ : Own} {u : View} {Q : Post} {σS : Own} {uS : View} {o : Oper}
theorem y_slice_hiK {x hi : Operand} {t e : TypeId} {sz by' n cap i : Nat} {ad : Option Addr} {k : IntKind} {z : Int} (ho : o.op = .slice t x none (some hi) none) (hS : tyS F.P t = some (e, sz, by')) (hx : opv ρ x = some (.v (.slice ad n cap)))
  (hhi : opv ρ hi = some (.v (.int k z))) (hz : z = (i : Int)) (hi' : i ≤ cap) : Yld F σS uS ρ σ u o (.v (.slice (if cap = 0 then ad else ad.map (·.add (0 * sz))) i cap)) := by
 intro bk hd a w hR
 subst hz
 refine ⟨_, rfl, fun w' _ => ?_⟩
 obtain ⟨inf, hu, hinf, rfl, _⟩ := tyS_some hS
 have hb : (Instr.sliceBounds true n cap none (some (.int k (i : Int))) none).run F.P w' = .ok (0, i, cap) w' := by
  simp [Instr.sliceBounds, Instr.sliceBound, asIntOf, hi']
 simp [execOp, ho, hR.op hx, hR.op hhi, Instr.sliceAt, run_underlying hu, Instr.slice, hb, sizeOf, typeInfo, hinf]
end
theorem SlC.uptoK {u : View} {ad : Option Addr} {n cap sz i : Nat} {xs : List Value} (h : SlC u ad n cap sz xs) (hi : i ≤ n) : SlC u (if cap = 0 then ad else ad.map (·.add (0 * sz))) i cap sz (xs.take (i * sz)) := by
 obtain ⟨h1, h2, h3, h4⟩ := h
 have hm : i * sz ≤ n * sz := Nat.mul_le_mul_right _ hi
 refine ⟨by rw [List.length_take, h1]; omega, by omega, h3, fun hn => ?_⟩
 obtain ⟨b, off, c, T, fr, rfl, hu, hc⟩ := h4 (by omega)
 rw [if_neg (by omega)]
 refine ⟨b, off, c, T, fr, by simp [add_eq], hu, ?_⟩
 rw [← hc]
 unfold cut
 rw [List.take_take, Nat.min_eq_left hm]
end Go.Eng
namespace Go.Proofs.Ythkgcakpjknlbaa
open Go Go.Eng
set_option linter.unusedSimpArgs false
set_option linter.unusedVariables false
set_option maxRecDepth 4000
theorem letter3_fn (c : UInt8) (u : View) : FnP Tryz.prog 71 [.int .u8 c.toNat] u fun r _ => ∃ b, r = .bool b := by
 refine FnP.intro [.tmp 2] Tryz.func71 rfl rfl rfl ?_
 intro w0 D hw0
 refine Zd (Za (ya rfl rfl (Zf (ρ' := [(0, _)]) ⟨rfl, trivial⟩ ?_)))
 refine Zc (Zd (Za (ym rfl rfl (Zg (Zci rfl rfl rfl) rfl (ym rfl rfl ?_)))))
 refine Zae 5 rfl (fun hg1_2 => ?_) (fun hg1_2 => ?_)
 ·
  refine Zk rfl rfl (ym rfl rfl (Zk rfl rfl (Zg (y_leq rfl rfl rfl) rfl (Zg (Zl rfl rfl rfl) rfl (ym rfl rfl ?_)))))
  refine Zae 9 rfl (fun hg1_6 => ?_) (fun hg1_6 => ?_)
  ·
   iterate 3 refine Zt rfl rfl rfl rfl ?_
   refine Zbg rfl rfl rfl (Zbg rfl rfl rfl (Zt rfl rfl rfl rfl (Zg (Zl rfl rfl rfl) rfl (ya rfl rfl (Zf (ρ' := [(2, _)]) ⟨rfl, trivial⟩ ?_)))))
   refine Zc (Zw (Zbe (.tmp rfl) ?_))
   exact ⟨_, rfl⟩
  ·
   refine Zk rfl rfl (ym rfl rfl (Zk rfl rfl (Zg (Zci rfl rfl rfl) rfl (Zk rfl rfl (ym rfl rfl ?_)))))
   refine Zae 12 rfl (fun hg1_9 => ?_) (fun hg1_9 => ?_)
   ·
    refine Zk rfl rfl (ym rfl rfl (Zk rfl rfl (Zg (y_leq rfl rfl rfl) rfl (Zk rfl rfl (Zg (Zl rfl rfl rfl) rfl (Zg (Zn rfl rfl rfl) rfl (ya rfl rfl (Zf (ρ' := [(2, _)]) ⟨rfl, trivial⟩ ?_))))))))
    refine Zc (Zw (Zbe (.tmp rfl) ?_))
    exact ⟨_, rfl⟩
   ·
    refine Zt rfl rfl rfl rfl (Zt rfl rfl rfl rfl (Zk rfl rfl (Zg (Zn rfl rfl rfl) rfl (Zg (Zn rfl rfl rfl) rfl (ya rfl rfl (Zf (ρ' := [(2, _)]) ⟨rfl, trivial⟩ ?_))))))
    refine Zc (Zw (Zbe (.tmp rfl) ?_))
    exact ⟨_, rfl⟩
 ·
  refine Zt rfl rfl rfl rfl (Zt rfl rfl rfl rfl (Zg (Zn rfl rfl rfl) rfl (ym rfl rfl (Zk rfl rfl (ym rfl rfl (Zk rfl rfl (Zg (Zci rfl rfl rfl) rfl ?_)))))))
  refine Zk rfl rfl (ym rfl rfl ?_)
  refine Zae 12 rfl (fun hg1_9 => ?_) (fun hg1_9 => ?_)
  ·
   refine Zk rfl rfl (ym rfl rfl (Zk rfl rfl (Zg (y_leq rfl rfl rfl) rfl (Zk rfl rfl (Zg (Zl rfl rfl rfl) rfl (Zg (Zn rfl rfl rfl) rfl (ya rfl rfl (Zf (ρ' := [(2, _)]) ⟨rfl, trivial⟩ ?_))))))))
   refine Zc (Zw (Zbe (.tmp rfl) ?_))
   exact ⟨_, rfl⟩
  ·
   refine Zt rfl rfl rfl rfl (Zt rfl rfl rfl rfl (Zk rfl rfl (Zg (Zn rfl rfl rfl) rfl (Zg (Zn rfl rfl rfl) rfl (ya rfl rfl (Zf (ρ' := [(2, _)]) ⟨rfl, trivial⟩ ?_))))))
   refine Zc (Zw (Zbe (.tmp rfl) ?_))
   exact ⟨_, rfl⟩
theorem part_fn (c : UInt8) (u : View) : FnP Tryz.prog 94 [.int .u8 c.toNat] u fun r _ => ∃ b, r = .bool b := by
 refine FnP.intro [.tmp 2] Tryz.func94 rfl rfl rfl ?_
 intro w0 D hw0
 refine Zd (Za (ya rfl rfl (Zf (ρ' := [(0, _)]) ⟨rfl, trivial⟩ ?_)))
 refine Zc (Zd (Za ?_))
 refine Zbh 26 28 (fun _ => True) (ρk := []) trivial ?_ fun mb1_25 hm1_25 => ?_
 ·
  refine ym rfl rfl (Zv rfl rfl ?_)
  refine Zaa (caps := []) trivial rfl rfl Tryz.c71 rfl (FnP.mono (letter3_fn c u) ?_)
  rintro v u1 hle1 ⟨b, rfl⟩
  refine ym rfl rfl ?_
  refine Zae 5 rfl (fun hg1_2 => ?_) (fun hg1_2 => ?_)
  ·
   iterate 3 refine Zt rfl rfl rfl rfl ?_
   refine Zbg rfl rfl rfl (Zbg rfl rfl rfl (Zt rfl rfl rfl rfl (Zg (Zl rfl rfl rfl) rfl (ym rfl rfl (Zt rfl rfl rfl rfl (Zt rfl rfl rfl rfl (Zg (Zl rfl rfl rfl) rfl ?_)))))))
   refine ym rfl rfl (Zt rfl rfl rfl rfl (Zt rfl rfl rfl rfl (Zg (Zl rfl rfl rfl) rfl (ym rfl rfl (Zt rfl rfl rfl rfl (Zt rfl rfl rfl rfl (Zg (Zl rfl rfl rfl) rfl ?_)))))))
   refine ym rfl rfl (Zt rfl rfl rfl rfl (Zt rfl rfl rfl rfl (Zg (Zl rfl rfl rfl) rfl ?_)))
   exact Zac rfl trivial (trivial)
  ·
   refine Zk rfl rfl (ym rfl rfl (Zk rfl rfl (Zg (Zci rfl rfl rfl) rfl (Zk rfl rfl (ym rfl rfl ?_)))))
   refine Zae 8 rfl (fun hg1_5 => ?_) (fun hg1_5 => ?_)
   ·
    refine Zk rfl rfl (ym rfl rfl (Zk rfl rfl (Zg (y_leq rfl rfl rfl) rfl (Zk rfl rfl (Zg (Zl rfl rfl rfl) rfl (Zg (Zn rfl rfl rfl) rfl (ym rfl rfl ?_)))))))
    refine Zae 13 rfl (fun hg1_10 => ?_) (fun hg1_10 => ?_)
    ·
     refine Zt rfl rfl rfl rfl (Zt rfl rfl rfl rfl (Zg (Zl rfl rfl rfl) rfl (ym rfl rfl (Zt rfl rfl rfl rfl (Zt rfl rfl rfl rfl (Zg (Zl rfl rfl rfl) rfl (ym rfl rfl ?_)))))))
     refine Zt rfl rfl rfl rfl (Zt rfl rfl rfl rfl (Zg (Zl rfl rfl rfl) rfl (ym rfl rfl (Zt rfl rfl rfl rfl (Zt rfl rfl rfl rfl (Zg (Zl rfl rfl rfl) rfl ?_))))))
     exact Zac rfl trivial (trivial)
    ·
     refine Zk rfl rfl (ym rfl rfl (Zk rfl rfl (Zg (Zaw rfl rfl rfl) rfl (Zg (Zn rfl rfl rfl) rfl (ym rfl rfl ?_)))))
     refine Zae 17 rfl (fun hg1_14 => ?_) (fun hg1_14 => ?_)
     ·
      refine Zt rfl rfl rfl rfl (Zt rfl rfl rfl rfl (Zg (Zl rfl rfl rfl) rfl (ym rfl rfl (Zt rfl rfl rfl rfl (Zt rfl rfl rfl rfl (Zg (Zl rfl rfl rfl) rfl (ym rfl rfl ?_)))))))
      refine Zt rfl rfl rfl rfl (Zt rfl rfl rfl rfl (Zg (Zl rfl rfl rfl) rfl ?_))
      exact Zac rfl trivial (trivial)
     ·
      refine Zk rfl rfl (ym rfl rfl (Zk rfl rfl (Zg (Zaw rfl rfl rfl) rfl (Zg (Zn rfl rfl rfl) rfl (ym rfl rfl ?_)))))
      refine Zae 21 rfl (fun hg1_18 => ?_) (fun hg1_18 => ?_)
      ·
       refine Zt rfl rfl rfl rfl (Zt rfl rfl rfl rfl (Zg (Zl rfl rfl rfl) rfl (ym rfl rfl (Zt rfl rfl rfl rfl (Zt rfl rfl rfl rfl (Zg (Zl rfl rfl rfl) rfl ?_))))))
       exact Zac rfl trivial (trivial)
      ·
       refine Zk rfl rfl (ym rfl rfl (Zk rfl rfl (Zg (Zaw rfl rfl rfl) rfl (Zg (Zn rfl rfl rfl) rfl (ym rfl rfl ?_)))))
       refine Zae 25 rfl (fun hg1_22 => ?_) (fun hg1_22 => ?_)
       ·
        refine Zt rfl rfl rfl rfl (Zt rfl rfl rfl rfl (Zg (Zl rfl rfl rfl) rfl ?_))
        exact Zac rfl trivial (trivial)
       ·
        refine Zk rfl rfl (ym rfl rfl (Zk rfl rfl (Zg (Zaw rfl rfl rfl) rfl (Zg (Zn rfl rfl rfl) rfl ?_))))
        exact Zac rfl trivial (trivial)
   ·
    refine Zt rfl rfl rfl rfl (Zt rfl rfl rfl rfl (Zk rfl rfl (Zg (Zn rfl rfl rfl) rfl (Zg (Zn rfl rfl rfl) rfl (ym rfl rfl (Zk rfl rfl (ym rfl rfl ?_)))))))
    refine Zk rfl rfl (Zg (Zaw rfl rfl rfl) rfl (Zg (Zn rfl rfl rfl) rfl (ym rfl rfl ?_)))
    refine Zae 17 rfl (fun hg1_14 => ?_) (fun hg1_14 => ?_)
    ·
     refine Zt rfl rfl rfl rfl (Zt rfl rfl rfl rfl (Zg (Zl rfl rfl rfl) rfl (ym rfl rfl (Zt rfl rfl rfl rfl (Zt rfl rfl rfl rfl (Zg (Zl rfl rfl rfl) rfl (ym rfl rfl ?_)))))))
     refine Zt rfl rfl rfl rfl (Zt rfl rfl rfl rfl (Zg (Zl rfl rfl rfl) rfl ?_))
     exact Zac rfl trivial (trivial)
    ·
     refine Zk rfl rfl (ym rfl rfl (Zk rfl rfl (Zg (Zaw rfl rfl rfl) rfl (Zg (Zn rfl rfl rfl) rfl (ym rfl rfl ?_)))))
     refine Zae 21 rfl (fun hg1_18 => ?_) (fun hg1_18 => ?_)
     ·
      refine Zt rfl rfl rfl rfl (Zt rfl rfl rfl rfl (Zg (Zl rfl rfl rfl) rfl (ym rfl rfl (Zt rfl rfl rfl rfl (Zt rfl rfl rfl rfl (Zg (Zl rfl rfl rfl) rfl ?_))))))
      exact Zac rfl trivial (trivial)
     ·
      refine Zk rfl rfl (ym rfl rfl (Zk rfl rfl (Zg (Zaw rfl rfl rfl) rfl (Zg (Zn rfl rfl rfl) rfl (ym rfl rfl ?_)))))
      refine Zae 25 rfl (fun hg1_22 => ?_) (fun hg1_22 => ?_)
      ·
       refine Zt rfl rfl rfl rfl (Zt rfl rfl rfl rfl (Zg (Zl rfl rfl rfl) rfl ?_))
       exact Zac rfl trivial (trivial)
      ·
       refine Zk rfl rfl (ym rfl rfl (Zk rfl rfl (Zg (Zaw rfl rfl rfl) rfl (Zg (Zn rfl rfl rfl) rfl ?_))))
       exact Zac rfl trivial (trivial)
 refine ya rfl rfl (Zf (ρ' := [(2, _)]) ⟨rfl, trivial⟩ ?_)
 refine Zc (Zw (Zbe (.tmp rfl) ?_))
 exact ⟨_, rfl⟩
theorem kword_fn (s : Bs) (i : Nat) (hi : i ≤ s.length) (hs : s.length ≤ 1000000000) (u : View) : FnP Tryz.prog 72 [str s, .int .i64 i] u fun r _ => ∃ j : Nat, r = .int .i64 j ∧ i ≤ j ∧ j ≤ s.length := by
 refine FnP.intro [.tmp 4] Tryz.func72 rfl rfl rfl ?_
 intro w0 D hw0
 refine Zd (Za (ya rfl rfl (Zf (ρ' := [(0, _), (1, _)]) ⟨rfl, rfl, trivial⟩ ?_)))
 refine Zc (Zd (Zad ?_))
 refine Zbc (fun m ρ σ u' => ∃ j : Nat, j + m = s.length - i ∧ VLe u u' ∧ σ = [] ∧ ρ = [(0, .v (str s)), (1, .v (.int .i64 ((i + j : Nat) : Int)))] ∧ (u = u')) (s.length - i) ?_ ?_
 ·
  refine ⟨[(0, _), (1, _)], [], ⟨rfl, rfl, trivial⟩, trivial, 0, by omega, VLe.refl _, (by first | rfl | simp), (by first | rfl | (simp only [List.cons.injEq, Prod.mk.injEq, SV.v.injEq, Value.int.injEq, true_and, and_true]; omega) | simp), ?_⟩
  rfl
 ·
  rintro mj ρ σ u' ⟨j, hi1, hle1, rfl, rfl, rfl⟩
  refine Zd (Zd (Za (ym rfl rfl (ym rfl rfl (Zg (Zao rfl rfl Tryz.str9 rfl) rfl (Zg (Zbn rfl rfl rfl) rfl (ym rfl rfl ?_)))))))
  refine Zae 9 rfl (fun hg1_4 => ?_) (fun hg1_4 => ?_)
  ·
   refine Zk rfl rfl (ym rfl rfl ?_)
   have hlt : i + j < s.length := by have := of_decide_eq_true hg1_4; omega
   obtain ⟨c, hc, hc2⟩ := byte_at hlt
   refine Zk rfl rfl (ym rfl rfl (Zk rfl rfl (Zg (Zat rfl Tryz.str9 rfl rfl (j := i + j) rfl hc) rfl (Zk rfl rfl (Zv rfl rfl ?_)))))
   refine Zaa (caps := []) trivial rfl rfl Tryz.c94 rfl (FnP.mono (part_fn c _) ?_)
   rintro v u1 hle1 ⟨b, rfl⟩
   refine Zg (Zl rfl rfl rfl) rfl (Zf (ρ' := [(0, _), (1, _), (14, _)]) ⟨rfl, rfl, rfl, trivial⟩ ?_)
   refine Zc ?_
   refine Zo rfl (fun hb1 => ?_) (fun hb1 => ?_)
   ·
    refine Zr (Zc (Zad (Za (ym rfl rfl (Zg (Zav rfl rfl rfl (Zs (by omega))) rfl ?_)))))
    refine ya rfl rfl (Zf (ρ' := [(0, _), (1, _)]) ⟨rfl, rfl, trivial⟩ ?_)
    refine Zah (Zab ?_)
    refine ⟨mj - 1, [(0, _), (1, _)], [], by omega, ⟨rfl, rfl, trivial⟩, trivial, j + 1, by omega, (VLe.refl _), (by first | rfl | simp), (by first | rfl | (simp only [List.cons.injEq, Prod.mk.injEq, SV.v.injEq, Value.int.injEq, true_and, and_true]; omega) | simp), ?_⟩
    rfl
   ·
    refine Zax ?_
    refine Zq (Zq ?_)
    refine Zaf ?_
    refine Zc (Zd (Za (ym rfl rfl (ya rfl rfl (Zf (ρ' := [(4, _)]) ⟨rfl, trivial⟩ ?_)))))
    refine Zc (Zw (Zbe (.tmp rfl) ?_))
    exact ⟨i + j, rfl, by omega, by omega⟩
  ·
   iterate 4 refine Zt rfl rfl rfl rfl ?_
   refine Zg (Zn rfl rfl rfl) rfl (Zf (ρ' := [(0, _), (1, _), (14, _)]) ⟨rfl, rfl, rfl, trivial⟩ ?_)
   refine Zc (Zce rfl (rfl) ?_)
   refine Zax ?_
   refine Zq (Zq ?_)
   refine Zaf ?_
   refine Zc (Zd (Za (ym rfl rfl (ya rfl rfl (Zf (ρ' := [(4, _)]) ⟨rfl, trivial⟩ ?_)))))
   refine Zc (Zw (Zbe (.tmp rfl) ?_))
   exact ⟨i + j, rfl, by omega, by omega⟩
theorem name_fn (s : Bs) (hs : s.length ≤ 1000000000) (u : View) : FnP Tryz.prog 34 [str s] u fun r _ => ∃ b, r = .bool b ∧ (b = true → s ≠ []) := by
 refine FnP.intro [.tmp 2] Tryz.func34 rfl rfl rfl ?_
 intro w0 D hw0
 refine Zd (Za (ya rfl rfl (Zf (ρ' := [(0, _)]) ⟨rfl, trivial⟩ ?_)))
 refine Zc (Zd (Za (ym rfl rfl (Zg (Zao rfl rfl Tryz.str9 rfl) rfl (Zg (Zci rfl rfl rfl) rfl (ym rfl rfl ?_))))))
 refine Zae 6 rfl (fun hg1_3 => ?_) (fun hg1_3 => ?_)
 ·
  refine Zk rfl rfl (ym rfl rfl (Zk rfl rfl (Zg (Zao rfl rfl Tryz.str9 rfl) rfl (Zk rfl rfl (Zg (y_leq rfl rfl rfl) rfl (Zg (Zl rfl rfl rfl) rfl (ym rfl rfl ?_)))))))
  refine Zae 11 rfl (fun hg1_8 => ?_) (fun hg1_8 => ?_)
  ·
   refine Zk rfl rfl (ym rfl rfl ?_)
   have hne : s ≠ [] := by
    rintro rfl
    exact absurd (of_decide_eq_true hg1_3) (by decide)
   obtain ⟨c, hc, hc2⟩ := byte_at (s := s) (i := 0) (by cases s with
    | nil => exact absurd rfl hne
    | cons a b => simp)
   refine Zk rfl rfl (Zg (Zat rfl Tryz.str9 rfl rfl (by first | rfl | omega) (by assumption)) rfl (Zk rfl rfl (Zv rfl rfl ?_)))
   refine Zaa (caps := []) trivial rfl rfl Tryz.c71 rfl (FnP.mono (letter3_fn c u) ?_)
   rintro v u1 hle1 ⟨b, rfl⟩
   refine Zg (Zl rfl rfl rfl) rfl (ym rfl rfl ?_)
   refine Zae 16 rfl (fun hg1_13 => ?_) (fun hg1_13 => ?_)
   ·
    refine Zk rfl rfl (ym rfl rfl (Zk rfl rfl (Zv rfl rfl ?_)))
    refine Zaa (caps := []) trivial rfl rfl Tryz.c72 rfl (FnP.mono (kword_fn s 0 (Nat.zero_le _) (by omega) u) ?_)
    rintro v u1 hle1 ⟨j, rfl, hj1, hj2⟩
    refine Zk rfl rfl (ym rfl rfl (Zk rfl rfl (Zg (Zao rfl rfl Tryz.str9 rfl) rfl (Zk rfl rfl (Zg (Zaw rfl rfl rfl) rfl (Zg (Zl rfl rfl rfl) rfl (ya rfl rfl (Zf (ρ' := [(2, _)]) ⟨rfl, trivial⟩ ?_))))))))
    refine Zc (Zw (Zbe (.tmp rfl) ?_))
    refine ⟨_, rfl, fun h => ?_⟩; first | exact hne | cases h | (rintro rfl; exact absurd h (by decide)) | (rintro rfl; exact absurd hg1_3 (by decide))
   ·
    iterate 5 refine Zt rfl rfl rfl rfl ?_
    refine Zg (Zn rfl rfl rfl) rfl (ya rfl rfl (Zf (ρ' := [(2, _)]) ⟨rfl, trivial⟩ ?_))
    refine Zc (Zw (Zbe (.tmp rfl) ?_))
    refine ⟨_, rfl, fun h => ?_⟩; first | exact hne | cases h | (rintro rfl; exact absurd h (by decide)) | (rintro rfl; exact absurd hg1_3 (by decide))
  ·
   iterate 3 refine Zt rfl rfl rfl rfl ?_
   refine Zg (Zn rfl rfl rfl) rfl (ym rfl rfl ?_)
   iterate 5 refine Zt rfl rfl rfl rfl ?_
   refine Zg (Zn rfl rfl rfl) rfl (ya rfl rfl (Zf (ρ' := [(2, _)]) ⟨rfl, trivial⟩ ?_))
   refine Zc (Zw (Zbe (.tmp rfl) ?_))
   refine ⟨_, rfl, fun h => ?_⟩; first | exact hne | cases h | (rintro rfl; exact absurd h (by decide)) | (rintro rfl; exact absurd hg1_3 (by decide))
 ·
  iterate 3 refine Zt rfl rfl rfl rfl ?_
  refine Zg (Zn rfl rfl rfl) rfl (ym rfl rfl ?_)
  iterate 3 refine Zt rfl rfl rfl rfl ?_
  refine Zg (Zn rfl rfl rfl) rfl (ym rfl rfl ?_)
  iterate 5 refine Zt rfl rfl rfl rfl ?_
  refine Zg (Zn rfl rfl rfl) rfl (ya rfl rfl (Zf (ρ' := [(2, _)]) ⟨rfl, trivial⟩ ?_))
  refine Zc (Zw (Zbe (.tmp rfl) ?_))
  refine ⟨_, rfl, fun h => ?_⟩; first | exact hne | cases h | (rintro rfl; exact absurd h (by decide)) | (rintro rfl; exact absurd hg1_3 (by decide))
theorem mem_take_lt {s : Bs} {i : Nat} {c : UInt8} (hc : s[i]? = some c) (h10 : c ≠ 10) (h : (10 : UInt8) ∉ s.take i) : (10 : UInt8) ∉ s.take (i + 1) := by
 obtain ⟨hlt, rfl⟩ := List.getElem?_eq_some_iff.1 hc
 rw [List.take_succ_eq_append_getElem hlt]
 intro hm
 rcases List.mem_append.1 hm with hm | hm
 ·
  exact h hm
 ·
  exact h10 (List.mem_singleton.1 hm).symm
theorem line3_fn (s : Bs) (hs : s.length ≤ 10000000) (u : View) : FnP Tryz.prog 139 [str s] u fun r _ => ∃ b, r = .bool b := by
 refine FnP.intro [.tmp 2] Tryz.func139 rfl rfl rfl ?_
 intro w0 D hw0
 refine Zd (Za (ya rfl rfl (Zf (ρ' := [(0, _)]) ⟨rfl, trivial⟩ ?_)))
 refine Zc (Zd (Zd (Za (ym rfl rfl (Zv rfl rfl ?_)))))
 refine Zaa (caps := []) trivial rfl rfl Tryz.c73 rfl (FnP.mono (kvalid_fn s (by omega) u) ?_)
 rintro v u1 hle1 ⟨b, rfl⟩
 refine Zg (Zbr rfl rfl) rfl (Zf (ρ' := [(0, _), (6, _)]) ⟨rfl, rfl, trivial⟩ ?_)
 refine Zc ?_
 refine Zo rfl (fun hb1 => ?_) (fun hb1 => ?_)
 ·
  refine Zd (Za (ya rfl rfl (Zf (ρ' := [(2, _)]) ⟨rfl, trivial⟩ ?_)))
  refine Zc (Zw (Zj (Zbe (.tmp rfl) ?_)))
  exact ⟨_, rfl⟩
 ·
  refine Zr (Zc (Zd (Zd (Za (ya rfl rfl (Zf (ρ' := [(0, _), (3, _)]) ⟨rfl, rfl, trivial⟩ ?_))))))
  refine Zc (Zad ?_)
  refine Zbc (fun m ρ σ u' => ∃ i : Nat, i + m = s.length ∧ VLe u u' ∧ σ = [] ∧ ρ = [(0, .v (str s)), (3, .v (.int .i64 i))] ∧ (u = u')) (s.length) ?_ ?_
  ·
   refine ⟨[(0, _), (3, _)], [], ⟨rfl, rfl, trivial⟩, trivial, 0, by omega, VLe.refl _, (by first | rfl | simp), (by first | rfl | (simp only [List.cons.injEq, Prod.mk.injEq, SV.v.injEq, Value.int.injEq, true_and, and_true]; omega) | simp), ?_⟩
   rfl
  ·
   rintro m ρ σ u' ⟨i, hi4, hle4, rfl, rfl, rfl⟩
   refine Zd (Zd (Za (ym rfl rfl (ym rfl rfl (Zg (Zao rfl rfl Tryz.str9 rfl) rfl (Zg (Zbn rfl rfl rfl) rfl (Zf (ρ' := [(0, _), (3, _), (10, _)]) ⟨rfl, rfl, rfl, trivial⟩ ?_)))))))
   refine Zc ?_
   refine Zo rfl (fun hb4 => ?_) (fun hb4 => ?_)
   ·
    have hlt : i < s.length := by have := of_decide_eq_true hb4; omega
    obtain ⟨c, hc, hc2⟩ := byte_at hlt
    refine Zr (Zc (Zd (Zad (Zd (Za (ym rfl rfl (ym rfl rfl ?_)))))))
    refine Zg (Zat rfl Tryz.str9 rfl rfl (by first | rfl | omega) (by assumption)) rfl (Zg (Zaw rfl rfl rfl) rfl (Zf (ρ' := [(0, _), (3, _), (16, _)]) ⟨rfl, rfl, rfl, trivial⟩ ?_))
    refine Zc ?_
    refine Zo rfl (fun hb6 => ?_) (fun hb6 => ?_)
    ·
     refine Zd (Za (ya rfl rfl (Zf (ρ' := [(2, _)]) ⟨rfl, trivial⟩ ?_)))
     refine Zc (Zw (Zu (Zj (Zj (Zu (Zj (Zbe (.tmp rfl) ?_)))))))
     exact ⟨_, rfl⟩
    ·
     refine Zr (Zah (Zc (Za (ym rfl rfl (Zg (Zav rfl rfl rfl (Zs (by omega))) rfl ?_)))))
     refine ya rfl rfl (Zf (ρ' := [(0, _), (3, _)]) ⟨rfl, rfl, trivial⟩ ?_)
     refine Zab ?_
     refine ⟨m - 1, [(0, _), (3, _)], [], by omega, ⟨rfl, rfl, trivial⟩, trivial, i + 1, by omega, hle4, (by first | rfl | simp), (by first | rfl | (simp only [List.cons.injEq, Prod.mk.injEq, SV.v.injEq, Value.int.injEq, true_and, and_true]; omega) | simp), ?_⟩
     rfl
   ·
    skip
    refine Zax ?_
    refine Zq (Zq ?_)
    refine Zaf ?_
    refine Zc (Zd (Za (ya rfl rfl (Zf (ρ' := [(2, _)]) ⟨rfl, trivial⟩ ?_))))
    refine Zc (Zw (Zbe (.tmp rfl) ?_))
    exact ⟨_, rfl⟩
theorem line4_fn (s : Bs) (hs : s.length ≤ 10000000) (u : View) : FnP Tryz.prog 35 [str s] u fun r _ => ∃ b, r = .bool b ∧ (b = true → (10 : UInt8) ∉ s) := by
 refine FnP.intro [.tmp 2] Tryz.func35 rfl rfl rfl ?_
 intro w0 D hw0
 refine Zd (Za (ya rfl rfl (Zf (ρ' := [(0, _)]) ⟨rfl, trivial⟩ ?_)))
 refine Zc (Zd (Zd (Za (ym rfl rfl (Zv rfl rfl ?_)))))
 refine Zaa (caps := []) trivial rfl rfl Tryz.c73 rfl (FnP.mono (kvalid_fn s (by omega) u) ?_)
 rintro v u1 hle1 ⟨b, rfl⟩
 refine Zg (Zbr rfl rfl) rfl (Zf (ρ' := [(0, _), (6, _)]) ⟨rfl, rfl, trivial⟩ ?_)
 refine Zc ?_
 refine Zo rfl (fun hb1 => ?_) (fun hb1 => ?_)
 ·
  refine Zd (Za (ya rfl rfl (Zf (ρ' := [(2, _)]) ⟨rfl, trivial⟩ ?_)))
  refine Zc (Zw (Zj (Zbe (.tmp rfl) ?_)))
  refine ⟨_, rfl, fun h => ?_⟩; first | exact hinv | cases h
 ·
  refine Zr (Zc (Zd (Zd (Za (ya rfl rfl (Zf (ρ' := [(0, _), (3, _)]) ⟨rfl, rfl, trivial⟩ ?_))))))
  refine Zc (Zad ?_)
  refine Zbc (fun m ρ σ u' => ∃ i : Nat, i + m = s.length ∧ VLe u u' ∧ σ = [] ∧ ρ = [(0, .v (str s)), (3, .v (.int .i64 i))] ∧ (u = u' ∧ (10 : UInt8) ∉ s.take i)) (s.length) ?_ ?_
  ·
   refine ⟨[(0, _), (3, _)], [], ⟨rfl, rfl, trivial⟩, trivial, 0, by omega, VLe.refl _, (by first | rfl | simp), (by first | rfl | (simp only [List.cons.injEq, Prod.mk.injEq, SV.v.injEq, Value.int.injEq, true_and, and_true]; omega) | simp), ?_⟩
   exact ⟨rfl, by simp⟩
  ·
   rintro m ρ σ u' ⟨i, hi4, hle4, rfl, rfl, ⟨rfl, hinv⟩⟩
   refine Zd (Zd (Za (ym rfl rfl (ym rfl rfl (Zg (Zao rfl rfl Tryz.str9 rfl) rfl (Zg (Zbn rfl rfl rfl) rfl (Zf (ρ' := [(0, _), (3, _), (10, _)]) ⟨rfl, rfl, rfl, trivial⟩ ?_)))))))
   refine Zc ?_
   refine Zo rfl (fun hb4 => ?_) (fun hb4 => ?_)
   ·
    have hlt : i < s.length := by have := of_decide_eq_true hb4; omega
    obtain ⟨c, hc, hc2⟩ := byte_at hlt
    refine Zr (Zc (Zd (Zad (Zd (Za (ym rfl rfl (ym rfl rfl ?_)))))))
    refine Zg (Zat rfl Tryz.str9 rfl rfl (by first | rfl | omega) (by assumption)) rfl (Zg (Zaw rfl rfl rfl) rfl (Zf (ρ' := [(0, _), (3, _), (16, _)]) ⟨rfl, rfl, rfl, trivial⟩ ?_))
    refine Zc ?_
    refine Zo rfl (fun hb6 => ?_) (fun hb6 => ?_)
    ·
     skip
     refine Zd (Za (ya rfl rfl (Zf (ρ' := [(2, _)]) ⟨rfl, trivial⟩ ?_)))
     refine Zc (Zw (Zu (Zj (Zj (Zu (Zj (Zbe (.tmp rfl) ?_)))))))
     refine ⟨_, rfl, fun h => ?_⟩; first | exact hinv | cases h
    ·
     have h10 : c ≠ 10 := by
      rintro rfl
      exact absurd hb6 (by decide)
     refine Zr (Zah (Zc (Za (ym rfl rfl (Zg (Zav rfl rfl rfl (Zs (by omega))) rfl ?_)))))
     refine ya rfl rfl (Zf (ρ' := [(0, _), (3, _)]) ⟨rfl, rfl, trivial⟩ ?_)
     refine Zab ?_
     refine ⟨m - 1, [(0, _), (3, _)], [], by omega, ⟨rfl, rfl, trivial⟩, trivial, i + 1, by omega, hle4, (by first | rfl | simp), (by first | rfl | (simp only [List.cons.injEq, Prod.mk.injEq, SV.v.injEq, Value.int.injEq, true_and, and_true]; omega) | simp), ?_⟩
     exact ⟨rfl, mem_take_lt hc h10 hinv⟩
   ·
    have hge := of_decide_eq_false hb4
    rw [List.take_of_length_le (by omega)] at hinv
    refine Zax ?_
    refine Zq (Zq ?_)
    refine Zaf ?_
    refine Zc (Zd (Za (ya rfl rfl (Zf (ρ' := [(2, _)]) ⟨rfl, trivial⟩ ?_))))
    refine Zc (Zw (Zbe (.tmp rfl) ?_))
    refine ⟨_, rfl, fun h => ?_⟩; first | exact hinv | cases h
theorem hasText_fn (v : Value) (xs : List Bs) (s : Bs) (hl : xs.length ≤ 1000000) (u : View) (h : StrS u v xs) : FnP Tryz.prog 138 [v, str s] u fun r _ => ∃ b, r = .bool b := by
 obtain ⟨ad, cap, rfl, h1⟩ := h
 refine FnP.intro [.tmp 4] Tryz.func138 rfl rfl rfl ?_
 intro w0 D hw0
 refine Zd (Za (ya rfl rfl (Zf (ρ' := [(0, _), (1, _)]) ⟨rfl, rfl, trivial⟩ ?_)))
 refine Zc (Zd (Zd (Za (ya rfl rfl (Zf (ρ' := [(0, _), (1, _), (5, _)]) ⟨rfl, rfl, rfl, trivial⟩ ?_)))))
 refine Zc (Zad ?_)
 refine Zbc (fun m ρ σ u' => ∃ i : Nat, i + m = xs.length ∧ VLe u u' ∧ σ = [] ∧ ρ = [(0, .v (.slice ad xs.length cap)), (1, .v (str s)), (5, .v (.int .i64 i))] ∧ (u = u')) (xs.length) ?_ ?_
 ·
  refine ⟨[(0, _), (1, _), (5, _)], [], ⟨rfl, rfl, rfl, trivial⟩, trivial, 0, by omega, VLe.refl _, (by first | rfl | simp), (by first | rfl | (simp only [List.cons.injEq, Prod.mk.injEq, SV.v.injEq, Value.int.injEq, true_and, and_true]; omega) | simp), ?_⟩
  rfl
 ·
  rintro m ρ σ u' ⟨i, hi2, hle2, rfl, rfl, rfl⟩
  refine Zd (Zd (Za (ym rfl rfl (ym rfl rfl (Zg (Zaq rfl rfl Tryz.s37 rfl) rfl (Zg (Zbn rfl rfl rfl) rfl (Zf (ρ' := [(0, _), (1, _), (5, _), (9, _)]) ⟨rfl, rfl, rfl, rfl, trivial⟩ ?_)))))))
  refine Zc ?_
  refine Zo rfl (fun hb2 => ?_) (fun hb2 => ?_)
  ·
   have hlt : i < xs.length := by have := of_decide_eq_true hb2; omega
   have hcc := cut_strsC (List.getElem?_eq_getElem hlt)
   refine Zr (Zc (Zd (Zad (Zd (Za (ym rfl rfl (ym rfl rfl ?_)))))))
   refine Zg (Zai rfl Tryz.s37 rfl rfl (by assumption) (by first | rfl | omega) (by omega)) rfl (Zg (Zag rfl Tryz.k9 rfl (by assumption) (by omega) (by assumption) (vs := [_]) rfl rfl rfl rfl) rfl (ym rfl rfl (Zg (Zba rfl rfl rfl) rfl (Zf (ρ' := [(0, _), (1, _), (5, _), (17, _)]) ⟨rfl, rfl, rfl, rfl, trivial⟩ ?_))))
   refine Zc ?_
   refine Zo rfl (fun hb4 => ?_) (fun hb4 => ?_)
   ·
    refine Zd (Za (ya rfl rfl (Zf (ρ' := [(4, _)]) ⟨rfl, trivial⟩ ?_)))
    refine Zc (Zw (Zu (Zj (Zj (Zu (Zj (Zbe (.tmp rfl) ?_)))))))
    exact ⟨_, rfl⟩
   ·
    refine Zr (Zah (Zc (Za (ym rfl rfl (Zg (Zav rfl rfl rfl (Zs (by omega))) rfl ?_)))))
    refine ya rfl rfl (Zf (ρ' := [(0, _), (1, _), (5, _)]) ⟨rfl, rfl, rfl, trivial⟩ ?_)
    refine Zab ?_
    refine ⟨m - 1, [(0, _), (1, _), (5, _)], [], by omega, ⟨rfl, rfl, rfl, trivial⟩, trivial, i + 1, by omega, hle2, (by first | rfl | simp), (by first | rfl | (simp only [List.cons.injEq, Prod.mk.injEq, SV.v.injEq, Value.int.injEq, true_and, and_true]; omega) | simp), ?_⟩
    rfl
  ·
   skip
   refine Zax ?_
   refine Zq (Zq ?_)
   refine Zaf ?_
   refine Zc (Zd (Za (ya rfl rfl (Zf (ρ' := [(4, _)]) ⟨rfl, trivial⟩ ?_))))
   refine Zc (Zw (Zbe (.tmp rfl) ?_))
   exact ⟨_, rfl⟩
theorem hasKey_fn (v : Value) (xs : List (Bs × Bs)) (s : Bs) (hl : xs.length ≤ 1000000) (u : View) (h : PrS u v xs) : FnP Tryz.prog 140 [v, str s] u fun r _ => ∃ b, r = .bool b := by
 obtain ⟨ad, cap, rfl, h1⟩ := h
 refine FnP.intro [.tmp 4] Tryz.func140 rfl rfl rfl ?_
 intro w0 D hw0
 refine Zd (Za (ya rfl rfl (Zf (ρ' := [(0, _), (1, _)]) ⟨rfl, rfl, trivial⟩ ?_)))
 refine Zc (Zd (Zd (Za (ya rfl rfl (Zf (ρ' := [(0, _), (1, _), (5, _)]) ⟨rfl, rfl, rfl, trivial⟩ ?_)))))
 refine Zc (Zad ?_)
 refine Zbc (fun m ρ σ u' => ∃ i : Nat, i + m = xs.length ∧ VLe u u' ∧ σ = [] ∧ ρ = [(0, .v (.slice ad xs.length cap)), (1, .v (str s)), (5, .v (.int .i64 i))] ∧ (u = u')) (xs.length) ?_ ?_
 ·
  refine ⟨[(0, _), (1, _), (5, _)], [], ⟨rfl, rfl, rfl, trivial⟩, trivial, 0, by omega, VLe.refl _, (by first | rfl | simp), (by first | rfl | (simp only [List.cons.injEq, Prod.mk.injEq, SV.v.injEq, Value.int.injEq, true_and, and_true]; omega) | simp), ?_⟩
  rfl
 ·
  rintro m ρ σ u' ⟨i, hi2, hle2, rfl, rfl, rfl⟩
  refine Zd (Zd (Za (ym rfl rfl (ym rfl rfl (Zg (Zaq rfl rfl Tryz.s22 rfl) rfl (Zg (Zbn rfl rfl rfl) rfl (Zf (ρ' := [(0, _), (1, _), (5, _), (9, _)]) ⟨rfl, rfl, rfl, rfl, trivial⟩ ?_)))))))
  refine Zc ?_
  refine Zo rfl (fun hb2 => ?_) (fun hb2 => ?_)
  ·
   have hlt : i < xs.length := by have := of_decide_eq_true hb2; omega
   have hcc := cut_pairsC (List.getElem?_eq_getElem hlt)
   refine Zr (Zc (Zd (Zad (Zd (Za (ym rfl rfl (ym rfl rfl ?_)))))))
   refine Zg (Zai rfl Tryz.s22 rfl rfl (by assumption) (by first | rfl | omega) (by omega)) rfl (Zg (Zau rfl Tryz.f56' rfl (by decide) rfl) rfl (Zg (Zag rfl Tryz.k9 rfl (by assumption) (by omega) (by assumption) (vs := [_]) rfl rfl rfl rfl) rfl (ym rfl rfl (Zg (Zba rfl rfl rfl) rfl (Zf (ρ' := [(0, _), (1, _), (5, _), (18, _)]) ⟨rfl, rfl, rfl, rfl, trivial⟩ ?_)))))
   refine Zc ?_
   refine Zo rfl (fun hb4 => ?_) (fun hb4 => ?_)
   ·
    refine Zd (Za (ya rfl rfl (Zf (ρ' := [(4, _)]) ⟨rfl, trivial⟩ ?_)))
    refine Zc (Zw (Zu (Zj (Zj (Zu (Zj (Zbe (.tmp rfl) ?_)))))))
    exact ⟨_, rfl⟩
   ·
    refine Zr (Zah (Zc (Za (ym rfl rfl (Zg (Zav rfl rfl rfl (Zs (by omega))) rfl ?_)))))
    refine ya rfl rfl (Zf (ρ' := [(0, _), (1, _), (5, _)]) ⟨rfl, rfl, rfl, trivial⟩ ?_)
    refine Zab ?_
    refine ⟨m - 1, [(0, _), (1, _), (5, _)], [], by omega, ⟨rfl, rfl, rfl, trivial⟩, trivial, i + 1, by omega, hle2, (by first | rfl | simp), (by first | rfl | (simp only [List.cons.injEq, Prod.mk.injEq, SV.v.injEq, Value.int.injEq, true_and, and_true]; omega) | simp), ?_⟩
    rfl
  ·
   skip
   refine Zax ?_
   refine Zq (Zq ?_)
   refine Zaf ?_
   refine Zc (Zd (Za (ya rfl rfl (Zf (ρ' := [(4, _)]) ⟨rfl, trivial⟩ ?_))))
   refine Zc (Zw (Zbe (.tmp rfl) ?_))
   exact ⟨_, rfl⟩
def AttrSm (a : DAttr) : Prop := longN a ≤ 9000 ∧ a.classes.length ≤ 40 ∧ a.pairs.length ≤ 40
theorem le_sumC : ∀ {l : List Nat} {x : Nat}, x ∈ l → x ≤ l.sum
 | [], x, h => by simp at h
 | y :: l, x, h => by
  rw [List.sum_cons]
  rcases List.mem_cons.1 h with rfl | h
  ·
   omega
  ·
   have := le_sumC h; omega
theorem AttrSm.id {a : DAttr} (h : AttrSm a) : a.id.length ≤ 9000 := by have := h.1; unfold longN at this; omega
theorem AttrSm.cls {a : DAttr} (h : AttrSm a) {c : Bs} (hc : c ∈ a.classes) : c.length ≤ 9000 := by
 have h1 := h.1
 unfold longN at h1
 have : c.length ≤ (a.classes.map List.length).sum := le_sumC (List.mem_map.2 ⟨c, hc, rfl⟩)
 omega
theorem AttrSm.prs {a : DAttr} (h : AttrSm a) {p : Bs × Bs} (hp : p ∈ a.pairs) : p.1.length + p.2.length ≤ 9000 := by
 have h1 := h.1
 unfold longN at h1
 have : p.1.length + p.2.length ≤ (a.pairs.map fun p => p.1.length + p.2.length).sum := le_sumC (List.mem_map.2 ⟨p, hp, rfl⟩)
 omega
theorem strS_take {u : View} {ad : Option Addr} {cap : Nat} {xs : List Bs} (h : SlC u ad xs.length cap 1 (strsC xs)) {i : Nat} (hi : i ≤ xs.length) : StrS u (.slice (if cap = 0 then ad else ad.map (·.add (0 * 1))) i cap) (xs.take i) := by
 have h2 := h.uptoK (i := i) hi
 refine ⟨_, _, by rw [List.length_take, Nat.min_eq_left hi], ?_⟩
 rw [List.length_take, Nat.min_eq_left hi]
 simpa [strsC, List.map_take] using h2
theorem pairsC_take : ∀ (ps : List (Bs × Bs)) (i : Nat), (pairsC ps).take (i * 2) = pairsC (ps.take i)
 | [], i => by simp [pairsC]
 | p :: ps, 0 => by simp [pairsC]
 | p :: ps, i + 1 => by
  have ih := pairsC_take ps i
  have e : pairsC (p :: ps) = str p.1 :: str p.2 :: pairsC ps := rfl
  rw [e, show (i + 1) * 2 = i * 2 + 1 + 1 by omega, List.take_succ_cons, List.take_succ_cons, ih, List.take_succ_cons]
  rfl
theorem prS_take {u : View} {ad : Option Addr} {cap : Nat} {xs : List (Bs × Bs)} (h : SlC u ad xs.length cap 2 (pairsC xs)) {i : Nat} (hi : i ≤ xs.length) : PrS u (.slice (if cap = 0 then ad else ad.map (·.add (0 * 2))) i cap) (xs.take i) := by
 have h2 := h.uptoK (i := i) hi
 refine ⟨_, _, by rw [List.length_take, Nat.min_eq_left hi], ?_⟩
 rw [List.length_take, Nat.min_eq_left hi]
 rw [pairsC_take] at h2
 exact h2
theorem attrCheck_fn (a : DAttr) (vc vp : Value) (ha : AttrSm a) (u : View) (h1 : StrS u vc a.classes) (h2 : PrS u vp a.pairs) : FnP Tryz.prog 121 [.agg #[str a.id, vc, vp]] u fun r _ => ∃ e, r = .int .i64 e := by
 obtain ⟨ad, cap, rfl, h1⟩ := h1
 obtain ⟨ad2, cap2, rfl, h2⟩ := h2
 have hid := ha.id
 have hcl := ha.2.1
 have hpl := ha.2.2
 have hcap := h1.2.1
 have hcap2 := h2.2.1
 refine FnP.intro [.tmp 2] Tryz.func121 rfl rfl rfl ?_
 intro w0 D hw0
 refine Zd (Za (Zv rfl rfl ?_))
 refine Zbx trivial rfl (cs := [_, _, _]) rfl rfl rfl rfl ?_
 refine ya rfl rfl (Zf (ρ' := [(1, _)]) ⟨rfl, trivial⟩ ?_)
 refine Zc (Zd (Zd (Za ?_)))
 refine Zbh 9 13 (fun _ => True) (ρk := [(1, _)]) ⟨rfl, trivial⟩ ?_ fun mb1_8 hm1_8 => ?_
 ·
  refine Zg (Zh rfl Tryz.f39' rfl (by decide) rfl) rfl (Zg (Zi rfl Tryz.k9 rfl rfl rfl (vs := [_]) rfl rfl rfl) rfl (Zg (Zbv rfl rfl rfl) rfl (ym rfl rfl ?_)))
  refine Zae 8 rfl (fun hg1_3 => ?_) (fun hg1_3 => ?_)
  ·
   refine Zk rfl rfl (Zg (Zh rfl Tryz.f39' rfl (by decide) rfl) rfl (Zk rfl rfl (Zg (Zi rfl Tryz.k9 rfl rfl rfl (vs := [_]) rfl rfl rfl) rfl (Zk rfl rfl (Zv rfl rfl ?_)))))
   refine Zaa (caps := []) trivial rfl rfl Tryz.c34 rfl (FnP.mono (name_fn a.id (by omega) u) ?_)
   rintro v u1 hle1 ⟨b, rfl, _⟩
   refine Zk rfl rfl (Zg (Zbr rfl rfl) rfl (Zg (Zl rfl rfl rfl) rfl ?_))
   exact Zac rfl ⟨rfl, trivial⟩ (trivial)
  ·
   iterate 4 refine Zt rfl rfl rfl rfl ?_
   refine Zg (Zn rfl rfl rfl) rfl ?_
   exact Zac rfl ⟨rfl, trivial⟩ (trivial)
 refine Zf (ρ' := [(1, _), (13, _)]) ⟨rfl, rfl, trivial⟩ ?_
 refine Zc ?_
 refine Zo rfl (fun hb1 => ?_) (fun hb1 => ?_)
 ·
  refine Zd (Za (ya rfl rfl (Zf (ρ' := [(2, _)]) ⟨rfl, trivial⟩ ?_)))
  refine Zc (Zw (Zj (Zbe (.tmp rfl) ?_)))
  exact ⟨_, rfl⟩
 ·
  refine Zr (Zc (Zd (Zd (Za (ya rfl rfl (Zf (ρ' := [(1, _), (3, _)]) ⟨rfl, rfl, trivial⟩ ?_))))))
  refine Zc (Zad ?_)
  refine Zbc (fun m ρ σ u' => ∃ i : Nat, i + m = a.classes.length ∧ VLe u u' ∧ σ = [(1, (none, .box [str a.id, .slice ad a.classes.length cap, .slice ad2 a.pairs.length cap2]))] ∧ ρ = [(1, .p 1 0), (3, .v (.int .i64 i))] ∧ (u = u')) (a.classes.length) ?_ ?_
  ·
   refine ⟨[(1, _), (3, _)], [(1, _)], ⟨rfl, rfl, trivial⟩, ⟨rfl, trivial⟩, 0, by omega, VLe.refl _, (by first | rfl | simp), (by first | rfl | (simp only [List.cons.injEq, Prod.mk.injEq, SV.v.injEq, Value.int.injEq, true_and, and_true]; omega) | simp), ?_⟩
   rfl
  ·
   rintro m ρ σ u' ⟨i, hi4, hle4, rfl, rfl, rfl⟩
   refine Zd (Zd (Za (ym rfl rfl (Zg (Zh rfl Tryz.f39' rfl (by decide) rfl) rfl (Zg (Zi rfl Tryz.k37 rfl rfl rfl (vs := [_]) rfl rfl rfl) rfl (Zg (Zaq rfl rfl Tryz.s37 rfl) rfl (Zg (Zbn rfl rfl rfl) rfl (Zf (ρ' := [(1, _), (3, _), (18, _)]) ⟨rfl, rfl, rfl, trivial⟩ ?_))))))))
   refine Zc ?_
   refine Zo rfl (fun hb4 => ?_) (fun hb4 => ?_)
   ·
    have hlt : i < a.classes.length := by have := of_decide_eq_true hb4; omega
    have hcc := cut_strsC (List.getElem?_eq_getElem hlt)
    have hl := ha.cls (List.getElem_mem hlt)
    refine Zr (Zc (Zd (Zad (Zd (Zd (Za (Zg (Zh rfl Tryz.f39' rfl (by decide) rfl) rfl ?_)))))))
    refine Zg (Zi rfl Tryz.k37 rfl rfl rfl (vs := [_]) rfl rfl rfl) rfl (ym rfl rfl (Zg (Zai rfl Tryz.s37 rfl rfl (by assumption) (by first | rfl | omega) (by omega)) rfl (Zg (Zag rfl Tryz.k9 rfl (by assumption) (by omega) (by assumption) (vs := [_]) rfl rfl rfl rfl) rfl (Zv rfl rfl ?_))))
    refine Zaa (caps := []) trivial rfl rfl Tryz.c34 rfl (FnP.mono (name_fn _ (by omega) u) ?_)
    rintro v u1 hle1 ⟨b, rfl, _⟩
    refine Zg (Zbr rfl rfl) rfl (Zf (ρ' := [(1, _), (3, _), (27, _)]) ⟨rfl, rfl, rfl, trivial⟩ ?_)
    refine Zc ?_
    refine Zo rfl (fun hb6 => ?_) (fun hb6 => ?_)
    ·
     refine Zd (Za (ya rfl rfl (Zf (ρ' := [(2, _)]) ⟨rfl, trivial⟩ ?_)))
     refine Zc (Zw (Zj (Zu (Zj (Zj (Zu (Zj ?_)))))))
     refine Zbe (.tmp rfl) ?_
     exact ⟨_, rfl⟩
    ·
     refine Zr (Zc (Zd ?_))
     refine Zbk Tryz.mixed rfl [(1, _)] ⟨rfl, trivial⟩ ?_
     refine Zal 0 rfl (by kernel_rfl) (Zb (Ze (Zb (Zb (Ze (Zb (Zan))))))) (Zh rfl Tryz.f39' rfl (by decide) rfl) rfl ?_
     refine Zal 1 rfl (by kernel_rfl) (Zb (Ze (Zb (Zb (Ze (Zb (Zan))))))) (Zi rfl Tryz.k37 rfl rfl rfl (vs := [_]) rfl rfl rfl) rfl ?_
     refine Zal 2 rfl (by kernel_rfl) (Zb (Ze (Zb (Zb (Ze (Zb (Zan))))))) (Zap rfl rfl) rfl ?_
     refine Zal 3 rfl (by kernel_rfl) (Zb (Ze (Zb (Zb (Ze (Zb (Zan))))))) (y_slice_hiK rfl Tryz.s37 rfl rfl (i := i) rfl (by omega)) rfl ?_
     refine Zal 4 rfl (by kernel_rfl) (Zb (Ze (Zb (Zb (Ze (Zb (Zan))))))) (Zh rfl Tryz.f39' rfl (by decide) rfl) rfl ?_
     refine Zal 5 rfl (by kernel_rfl) (Zb (Ze (Zb (Zb (Ze (Zb (Zan))))))) (Zi rfl Tryz.k37 rfl rfl rfl (vs := [_]) rfl rfl rfl) rfl ?_
     refine Zal 6 rfl (by kernel_rfl) (Zb (Ze (Zb (Zb (Ze (Zb (Zan))))))) (Zap rfl rfl) rfl ?_
     refine Zal 7 rfl (by kernel_rfl) (Zb (Ze (Zb (Zb (Ze (Zb (Zan))))))) (Zai rfl Tryz.s37 rfl rfl (by assumption) (by first | rfl | omega) (by omega)) rfl ?_
     refine Zal 8 rfl (by kernel_rfl) (Zb (Ze (Zb (Zb (Ze (Zb (Zan))))))) (Zag rfl Tryz.k9 rfl (by assumption) (by omega) (by assumption) (vs := [_]) rfl rfl rfl rfl) rfl ?_
     refine Zar (i := 9) rfl rfl (by kernel_rfl) ?_
     refine Zaa (caps := []) ⟨rfl, trivial⟩ rfl rfl Tryz.c138 rfl (FnP.mono (hasText_fn _ (a.classes.take i) _ (by rw [List.length_take]; omega) u (strS_take h1 (by omega))) ?_)
     rintro v u1 hle1 ⟨b, rfl⟩
     refine Zbl (by kernel_rfl) (ρ' := [(1, _), (3, _), (37, _)]) ⟨rfl, rfl, rfl, trivial⟩ ?_
     refine Zc ?_
     refine Zo rfl (fun hb8 => ?_) (fun hb8 => ?_)
     ·
      refine Zd (Za (ya rfl rfl (Zf (ρ' := [(2, _)]) ⟨rfl, trivial⟩ ?_)))
      refine Zc (Zw (Zu (Zj (Zj (Zu (Zj (Zbe (.tmp rfl) ?_)))))))
      exact ⟨_, rfl⟩
     ·
      refine Zr (Zah (Zc (Za (ym rfl rfl (Zg (Zav rfl rfl rfl (Zs (by omega))) rfl ?_)))))
      refine ya rfl rfl (Zf (ρ' := [(1, _), (3, _)]) ⟨rfl, rfl, trivial⟩ ?_)
      refine Zab ?_
      refine ⟨m - 1, [(1, _), (3, _)], [(1, _)], by omega, ⟨rfl, rfl, trivial⟩, ⟨rfl, trivial⟩, i + 1, by omega, hle4, (by first | rfl | simp), (by first | rfl | (simp only [List.cons.injEq, Prod.mk.injEq, SV.v.injEq, Value.int.injEq, true_and, and_true]; omega) | simp), ?_⟩
      rfl
   ·
    skip
    refine Zax ?_
    refine Zq (Zq ?_)
    refine Zaf ?_
    refine Zc (Zd (Zd (Za (ya rfl rfl (Zf (ρ' := [(1, _), (4, _)]) ⟨rfl, rfl, trivial⟩ ?_)))))
    refine Zc (Zad ?_)
    refine Zbc (fun m ρ σ u' => ∃ j : Nat, j + m = a.pairs.length ∧ VLe u u' ∧ σ = [(1, (none, .box [str a.id, .slice ad a.classes.length cap, .slice ad2 a.pairs.length cap2]))] ∧ ρ = [(1, .p 1 0), (4, .v (.int .i64 j))] ∧ (u = u')) (a.pairs.length) ?_ ?_
    ·
     refine ⟨[(1, _), (4, _)], [(1, _)], ⟨rfl, rfl, trivial⟩, ⟨rfl, trivial⟩, 0, by omega, VLe.refl _, (by first | rfl | simp), (by first | rfl | (simp only [List.cons.injEq, Prod.mk.injEq, SV.v.injEq, Value.int.injEq, true_and, and_true]; omega) | simp), ?_⟩
     rfl
    ·
     rintro mj ρ σ u' ⟨j, hi11, hle11, rfl, rfl, rfl⟩
     refine Zd (Zd (Za (ym rfl rfl (Zg (Zh rfl Tryz.f39' rfl (by decide) rfl) rfl (Zg (Zi rfl Tryz.k22 rfl rfl rfl (vs := [_]) rfl rfl rfl) rfl (Zg (Zaq rfl rfl Tryz.s22 rfl) rfl (Zg (Zbn rfl rfl rfl) rfl (Zf (ρ' := [(1, _), (4, _), (42, _)]) ⟨rfl, rfl, rfl, trivial⟩ ?_))))))))
     refine Zc ?_
     refine Zo rfl (fun hb11 => ?_) (fun hb11 => ?_)
     ·
      have hlt2 : j < a.pairs.length := by have := of_decide_eq_true hb11; omega
      have hcc2 := cut_pairsC (List.getElem?_eq_getElem hlt2)
      have hl2 := ha.prs (List.getElem_mem hlt2)
      refine Zr (Zc (Zd (Zad (Zd (Zd (Za (Zg (Zh rfl Tryz.f39' rfl (by decide) rfl) rfl ?_)))))))
      refine Zg (Zi rfl Tryz.k22 rfl rfl rfl (vs := [_]) rfl rfl rfl) rfl (ym rfl rfl (Zg (Zai rfl Tryz.s22 rfl rfl (by assumption) (by first | rfl | omega) (by omega)) rfl (Zg (Zau rfl Tryz.f56' rfl (by decide) rfl) rfl (Zg (Zag rfl Tryz.k9 rfl (by assumption) (by omega) (by assumption) (vs := [_]) rfl rfl rfl rfl) rfl (Zv rfl rfl ?_)))))
      refine Zaa (caps := []) trivial rfl rfl Tryz.c34 rfl (FnP.mono (name_fn _ (by omega) u) ?_)
      rintro v u1 hle1 ⟨b, rfl, _⟩
      refine Zg (Zbr rfl rfl) rfl (Zf (ρ' := [(1, _), (4, _), (52, _)]) ⟨rfl, rfl, rfl, trivial⟩ ?_)
      refine Zc ?_
      refine Zo rfl (fun hb13 => ?_) (fun hb13 => ?_)
      ·
       refine Zd (Za (ya rfl rfl (Zf (ρ' := [(2, _)]) ⟨rfl, trivial⟩ ?_)))
       refine Zc (Zw (Zj (Zu (Zj (Zj (Zu (Zj ?_)))))))
       refine Zbe (.tmp rfl) ?_
       exact ⟨_, rfl⟩
      ·
       refine Zr (Zc (Zd (Zd (Za (Zg (Zh rfl Tryz.f39' rfl (by decide) rfl) rfl (Zg (Zi rfl Tryz.k22 rfl rfl rfl (vs := [_]) rfl rfl rfl) rfl (ym rfl rfl ?_)))))))
       refine Zg (Zai rfl Tryz.s22 rfl rfl (by assumption) (by first | rfl | omega) (by omega)) rfl (Zg (Zau rfl Tryz.f56' rfl (by decide) rfl) rfl (Zg (Zag rfl Tryz.k9 rfl (by assumption) (by omega) (by assumption) (vs := [_]) rfl rfl rfl rfl) rfl (Zv rfl rfl ?_)))
       refine Zaa (caps := []) trivial rfl rfl Tryz.c139 rfl (FnP.mono (line3_fn _ (by omega) u) ?_)
       rintro v u1 hle1 ⟨b, rfl⟩
       refine Zg (Zbr rfl rfl) rfl (Zf (ρ' := [(1, _), (4, _), (60, _)]) ⟨rfl, rfl, rfl, trivial⟩ ?_)
       refine Zc ?_
       refine Zo rfl (fun hb15 => ?_) (fun hb15 => ?_)
       ·
        refine Zd (Za (ya rfl rfl (Zf (ρ' := [(2, _)]) ⟨rfl, trivial⟩ ?_)))
        refine Zc (Zw (Zj (Zu (Zj (Zj (Zu (Zj ?_)))))))
        refine Zbe (.tmp rfl) ?_
        exact ⟨_, rfl⟩
       ·
        refine Zr (Zc (Zd ?_))
        refine Zbk Tryz.mixed rfl [(1, _)] ⟨rfl, trivial⟩ ?_
        refine Zal 0 rfl (by kernel_rfl) (Zb (Ze (Zb (Zb (Ze (Zb (Zan))))))) (Zh rfl Tryz.f39' rfl (by decide) rfl) rfl ?_
        refine Zal 1 rfl (by kernel_rfl) (Zb (Ze (Zb (Zb (Ze (Zb (Zan))))))) (Zi rfl Tryz.k22 rfl rfl rfl (vs := [_]) rfl rfl rfl) rfl ?_
        refine Zal 2 rfl (by kernel_rfl) (Zb (Ze (Zb (Zb (Ze (Zb (Zan))))))) (Zap rfl rfl) rfl ?_
        refine Zal 3 rfl (by kernel_rfl) (Zb (Ze (Zb (Zb (Ze (Zb (Zan))))))) (y_slice_hiK rfl Tryz.s22 rfl rfl (i := j) rfl (by omega)) rfl ?_
        refine Zal 4 rfl (by kernel_rfl) (Zb (Ze (Zb (Zb (Ze (Zb (Zan))))))) (Zh rfl Tryz.f39' rfl (by decide) rfl) rfl ?_
        refine Zal 5 rfl (by kernel_rfl) (Zb (Ze (Zb (Zb (Ze (Zb (Zan))))))) (Zi rfl Tryz.k22 rfl rfl rfl (vs := [_]) rfl rfl rfl) rfl ?_
        refine Zal 6 rfl (by kernel_rfl) (Zb (Ze (Zb (Zb (Ze (Zb (Zan))))))) (Zap rfl rfl) rfl ?_
        refine Zal 7 rfl (by kernel_rfl) (Zb (Ze (Zb (Zb (Ze (Zb (Zan))))))) (Zai rfl Tryz.s22 rfl rfl (by assumption) (by first | rfl | omega) (by omega)) rfl ?_
        refine Zal 8 rfl (by kernel_rfl) (Zb (Ze (Zb (Zb (Ze (Zb (Zan))))))) (Zau rfl Tryz.f56' rfl (by decide) rfl) rfl ?_
        refine Zal 9 rfl (by kernel_rfl) (Zb (Ze (Zb (Zb (Ze (Zb (Zan))))))) (Zag rfl Tryz.k9 rfl (by assumption) (by omega) (by assumption) (vs := [_]) rfl rfl rfl rfl) rfl ?_
        refine Zar (i := 10) rfl rfl (by kernel_rfl) ?_
        refine Zaa (caps := []) ⟨rfl, trivial⟩ rfl rfl Tryz.c140 rfl (FnP.mono (hasKey_fn _ (a.pairs.take j) _ (by rw [List.length_take]; omega) u (prS_take h2 (by omega))) ?_)
        rintro v u1 hle1 ⟨b, rfl⟩
        refine Zbl (by kernel_rfl) (ρ' := [(1, _), (4, _), (71, _)]) ⟨rfl, rfl, rfl, trivial⟩ ?_
        refine Zc ?_
        refine Zo rfl (fun hb17 => ?_) (fun hb17 => ?_)
        ·
         refine Zd (Za (ya rfl rfl (Zf (ρ' := [(2, _)]) ⟨rfl, trivial⟩ ?_)))
         refine Zc (Zw (Zu (Zj (Zj (Zu (Zj (Zbe (.tmp rfl) ?_)))))))
         exact ⟨_, rfl⟩
        ·
         refine Zr (Zah (Zc (Za (ym rfl rfl (Zg (Zav rfl rfl rfl (Zs (by omega))) rfl ?_)))))
         refine ya rfl rfl (Zf (ρ' := [(1, _), (4, _)]) ⟨rfl, rfl, trivial⟩ ?_)
         refine Zab ?_
         refine ⟨mj - 1, [(1, _), (4, _)], [(1, _)], by omega, ⟨rfl, rfl, trivial⟩, ⟨rfl, trivial⟩, j + 1, by omega, hle11, (by first | rfl | simp), (by first | rfl | (simp only [List.cons.injEq, Prod.mk.injEq, SV.v.injEq, Value.int.injEq, true_and, and_true]; omega) | simp), ?_⟩
         rfl
     ·
      skip
      refine Zax ?_
      refine Zq (Zq ?_)
      refine Zaf ?_
      refine Zc (Zd (Zd (Za ?_)))
      refine Zbh 10 81 (fun _ => True) (ρk := []) trivial ?_ fun mb19_9 hm19_9 => ?_
      ·
       refine Zg (Zh rfl Tryz.f39' rfl (by decide) rfl) rfl (Zg (Zi rfl Tryz.k37 rfl rfl rfl (vs := [_]) rfl rfl rfl) rfl (Zg (Zaq rfl rfl Tryz.s37 rfl) rfl (Zg (Zcn rfl rfl rfl) rfl (ym rfl rfl ?_))))
       refine Zae 76 rfl (fun hg19_4 => ?_) (fun hg19_4 => ?_)
       ·
        iterate 4 refine Zt rfl rfl rfl rfl ?_
        refine Zg (Zl rfl rfl rfl) rfl ?_
        exact Zac rfl trivial (trivial)
       ·
        refine Zk rfl rfl (Zg (Zh rfl Tryz.f39' rfl (by decide) rfl) rfl (Zk rfl rfl (Zg (Zi rfl Tryz.k22 rfl rfl rfl (vs := [_]) rfl rfl rfl) rfl (Zk rfl rfl (Zg (Zaq rfl rfl Tryz.s22 rfl) rfl (Zk rfl rfl (Zg (Zcn rfl rfl rfl) rfl ?_)))))))
        refine Zg (Zn rfl rfl rfl) rfl ?_
        exact Zac rfl trivial (trivial)
      refine Zf (ρ' := [(81, _)]) ⟨rfl, trivial⟩ ?_
      refine Zc ?_
      refine Zo rfl (fun hb19 => ?_) (fun hb19 => ?_)
      ·
       refine Zd (Za (ya rfl rfl (Zf (ρ' := [(2, _)]) ⟨rfl, trivial⟩ ?_)))
       refine Zc (Zw (Zj (Zbe (.tmp rfl) ?_)))
       exact ⟨_, rfl⟩
      ·
       refine Zr (Zc (Zd (Za (ya rfl rfl (Zf (ρ' := [(2, _)]) ⟨rfl, trivial⟩ ?_)))))
       refine Zc (Zw (Zbe (.tmp rfl) ?_))
       exact ⟨_, rfl⟩
theorem kvalue_fn (s : Bs) (i : Nat) (hi : i ≤ s.length) (hs : s.length ≤ 1000000) (u : View) : FnP Tryz.prog 171 [str s, .int .i64 i] u fun r _ => ∃ (v : Bs) (t : Nat) (b : Bool), r = .tuple #[str v, .int .i64 t, .bool b] ∧ t ≤ s.length := by
 refine FnP.intro [.tmp 4, .tmp 5, .tmp 6] Tryz.func171 rfl rfl rfl ?_
 intro w0 D hw0
 refine Zd (Za (ya rfl rfl (ya rfl rfl (ya rfl rfl (Zf (ρ' := [(0, _), (1, _)]) ⟨rfl, rfl, trivial⟩ ?_)))))
 refine Zc (Zd (Zd (Za ?_)))
 refine Zbh 10 18 (fun _ => True) (ρk := [(0, _), (1, _)]) ⟨rfl, rfl, trivial⟩ ?_ fun mb1_9 hm1_9 => ?_
 ·
  refine ym rfl rfl (ym rfl rfl (Zg (Zao rfl rfl Tryz.str9 rfl) rfl (Zg (Zci rfl rfl rfl) rfl (ym rfl rfl ?_))))
  refine Zae 13 rfl (fun hg1_4 => ?_) (fun hg1_4 => ?_)
  ·
   iterate 4 refine Zt rfl rfl rfl rfl ?_
   refine Zg (Zl rfl rfl rfl) rfl ?_
   exact Zac rfl ⟨rfl, rfl, trivial⟩ (trivial)
  ·
   refine Zk rfl rfl (ym rfl rfl ?_)
   have hlt : i < s.length := by have := of_decide_eq_false hg1_4; omega
   obtain ⟨c, hc, hc2⟩ := byte_at hlt
   refine Zk rfl rfl (ym rfl rfl (Zk rfl rfl (Zg (Zat rfl Tryz.str9 rfl rfl (j := i) rfl hc) rfl (Zk rfl rfl (Zg (Zck rfl rfl rfl) rfl (Zg (Zn rfl rfl rfl) rfl ?_))))))
   exact Zac rfl ⟨rfl, rfl, trivial⟩ (trivial)
 refine Zf (ρ' := [(0, _), (1, _), (18, _)]) ⟨rfl, rfl, rfl, trivial⟩ ?_
 refine Zc ?_
 refine Zo rfl (fun hb1 => ?_) (fun hb1 => ?_)
 ·
  refine Zd (Za (ym rfl rfl (ym rfl rfl (Zv rfl rfl ?_))))
  refine Zaa (caps := []) trivial rfl rfl Tryz.c72 rfl (FnP.mono (kword_fn s i hi (by omega) u) ?_)
  rintro v u1 hle1 ⟨t, rfl, ht1, ht2⟩
  refine ya rfl rfl (Zf (ρ' := [(0, _), (1, _), (7, _)]) ⟨rfl, rfl, rfl, trivial⟩ ?_)
  refine Zc (Zd (Zd (Za ?_)))
  refine Zbh 12 33 (fun _ => True) (ρk := [(0, _), (1, _), (7, _)]) ⟨rfl, rfl, rfl, trivial⟩ ?_ fun mb3_11 hm3_11 => ?_
  ·
   refine ym rfl rfl (ym rfl rfl (Zg (Zao rfl rfl Tryz.str9 rfl) rfl (Zg (Zcn rfl rfl rfl) rfl (ym rfl rfl ?_))))
   refine Zae 26 rfl (fun hg3_4 => ?_) (fun hg3_4 => ?_)
   ·
    iterate 6 refine Zt rfl rfl rfl rfl ?_
    refine Zg (Zl rfl rfl rfl) rfl ?_
    exact Zac rfl ⟨rfl, rfl, rfl, trivial⟩ (trivial)
   ·
    refine Zk rfl rfl (ym rfl rfl (Zk rfl rfl (ym rfl rfl (Zk rfl rfl (ym rfl rfl (Zk rfl rfl (Zg (Zcc rfl Tryz.str9 rfl (i := i) (j := t) rfl rfl ht1 ht2) rfl ?_)))))))
    refine Zk rfl rfl (Zv rfl rfl ?_)
    refine Zaa (caps := []) trivial rfl rfl Tryz.c34 rfl (FnP.mono (name_fn _ (by simp; omega) u) ?_)
    rintro v u1 hle1 ⟨b, rfl, _⟩
    refine Zk rfl rfl (Zg (Zbr rfl rfl) rfl (Zg (Zn rfl rfl rfl) rfl ?_))
    exact Zac rfl ⟨rfl, rfl, rfl, trivial⟩ (trivial)
  refine Zf (ρ' := [(0, _), (1, _), (7, _), (33, _)]) ⟨rfl, rfl, rfl, rfl, trivial⟩ ?_
  refine Zc ?_
  refine Zo rfl (fun hb3 => ?_) (fun hb3 => ?_)
  ·
   refine Zd (Za (ya rfl rfl (ya rfl rfl (ya rfl rfl (Zf (ρ' := [(4, _), (5, _), (6, _)]) ⟨rfl, rfl, rfl, trivial⟩ ?_)))))
   refine Zc (Zw (Zj (Zj ?_)))
   refine fin3 (.tmp rfl) (.tmp rfl) (.tmp rfl) ?_
   first | exact ⟨_, 0, _, rfl, Nat.zero_le _⟩ | exact ⟨_, t, _, rfl, ht2⟩ | exact ⟨_, i + 1 + j + 1, _, rfl, by have := hm15_8 hb15; omega⟩
  ·
   refine Zr (Zc (Zd (Za (ym rfl rfl (ym rfl rfl (ym rfl rfl (Zg (Zcc rfl Tryz.str9 rfl (i := i) (j := t) rfl rfl ht1 ht2) rfl ?_)))))))
   refine ym rfl rfl (ya rfl rfl (ya rfl rfl (ya rfl rfl (Zf (ρ' := [(4, _), (5, _), (6, _)]) ⟨rfl, rfl, rfl, trivial⟩ ?_))))
   refine Zc (Zw (Zj ?_))
   refine fin3 (.tmp rfl) (.tmp rfl) (.tmp rfl) ?_
   first | exact ⟨_, 0, _, rfl, Nat.zero_le _⟩ | exact ⟨_, t, _, rfl, ht2⟩ | exact ⟨_, i + 1 + j + 1, _, rfl, by have := hm15_8 hb15; omega⟩
 ·
  refine Zr (Zc (Zd (Za (ya rfl rfl (Zf (ρ' := [(0, _), (1, _), (8, _)]) ⟨rfl, rfl, rfl, trivial⟩ ?_)))))
  refine Zc (Zd (Za (ym rfl rfl (Zg (Zav rfl rfl rfl (Zs (by omega))) rfl ?_))))
  refine ya rfl rfl (Zf (ρ' := [(0, _), (1, _), (8, _)]) ⟨rfl, rfl, rfl, trivial⟩ ?_)
  refine Zc (Zd (Zad ?_))
  refine Zbc (fun m ρ σ u' => ∃ j : Nat, j + m = s.length + 2 ∧ VLe u u' ∧ ∃ (out : Bs), σ = [] ∧ ρ = [(0, .v (str s)), (1, .v (.int .i64 ((i + 1 + j : Nat) : Int))), (8, .v (str out))] ∧ (u = u' ∧ out.length ≤ j)) (s.length + 2) ?_ ?_
  ·
   refine ⟨[(0, _), (1, _), (8, _)], [], ⟨rfl, rfl, rfl, trivial⟩, trivial, 0, by omega, VLe.refl _, [], rfl, rfl, ?_⟩
   exact ⟨rfl, Nat.le_refl _⟩
  ·
   rintro mj ρ σ u' ⟨j, hi8, hle8, out, rfl, rfl, ⟨rfl, hol⟩⟩
   refine Zd (Zd (Za ?_))
   refine Zbh 10 50 (fun b => b = true → i + 1 + j < s.length) (ρk := [(0, _), (1, _), (8, _)]) ⟨rfl, rfl, rfl, trivial⟩ ?_ fun mb8_9 hm8_9 => ?_
   ·
    refine ym rfl rfl (ym rfl rfl (Zg (Zao rfl rfl Tryz.str9 rfl) rfl (Zg (Zbn rfl rfl rfl) rfl (ym rfl rfl ?_))))
    refine Zae 45 rfl (fun hg8_4 => ?_) (fun hg8_4 => ?_)
    ·
     refine Zk rfl rfl (ym rfl rfl ?_)
     have hlt : i + 1 + j < s.length := by have := of_decide_eq_true hg8_4; omega
     obtain ⟨c, hc, hc2⟩ := byte_at hlt
     refine Zk rfl rfl (ym rfl rfl (Zk rfl rfl (Zg (Zat rfl Tryz.str9 rfl rfl (j := i + 1 + j) rfl hc) rfl (Zk rfl rfl (Zg (Zck rfl rfl rfl) rfl (Zg (Zl rfl rfl rfl) rfl ?_))))))
     exact Zac rfl ⟨rfl, rfl, rfl, trivial⟩ (by (first | exact fun _ => hlt | exact fun h => absurd h (by decide)))
    ·
     iterate 4 refine Zt rfl rfl rfl rfl ?_
     refine Zg (Zn rfl rfl rfl) rfl ?_
     exact Zac rfl ⟨rfl, rfl, rfl, trivial⟩ (by (first | exact fun _ => hlt | exact fun h => absurd h (by decide)))
   refine Zf (ρ' := [(0, _), (1, _), (8, _), (50, _)]) ⟨rfl, rfl, rfl, rfl, trivial⟩ ?_
   refine Zc ?_
   refine Zo rfl (fun hb8 => ?_) (fun hb8 => ?_)
   ·
    have hlt := hm8_9 hb8; obtain ⟨c, hc, hc2⟩ := byte_at hlt
    refine Zr (Zc (Zad ?_))
    refine Zbu (fun ρ σ uc13 => ∃ (q : Nat), VLe u uc13 ∧ σ = [] ∧ ρ = [(0, .v (str s)), (1, .v (.int .i64 (q : Nat))), (8, .v (str out))] ∧ (u = uc13 ∧ q < s.length ∧ i + 1 + j ≤ q ∧ q ≤ i + 2 + j)) ?_ ?_
    ·
     refine Zd (Za (ym rfl rfl (ym rfl rfl (Zg (Zat rfl Tryz.str9 rfl rfl (j := i + 1 + j) rfl hc) rfl (Zg (Zaw rfl rfl rfl) rfl (Zf (ρ' := [(0, _), (1, _), (8, _), (54, _)]) ⟨rfl, rfl, rfl, rfl, trivial⟩ ?_))))))
     refine Zc ?_
     refine Zo rfl (fun hb9 => ?_) (fun hb9 => ?_)
     ·
      refine Zd (Za (ym rfl rfl (Zg (Zav rfl rfl rfl (Zs (by omega))) rfl ?_)))
      refine ya rfl rfl (Zf (ρ' := [(0, _), (1, _), (8, _)]) ⟨rfl, rfl, rfl, trivial⟩ ?_)
      refine Zc (Zd (Za ?_))
      refine Zbh 16 72 (fun b => b = false → i + 1 + j + 1 < s.length) (ρk := [(0, _), (1, _), (8, _)]) ⟨rfl, rfl, rfl, trivial⟩ ?_ fun mb11_15 hm11_15 => ?_
      ·
       refine ym rfl rfl (ym rfl rfl (Zg (Zao rfl rfl Tryz.str9 rfl) rfl (Zg (Zci rfl rfl rfl) rfl (ym rfl rfl ?_))))
       refine Zae 61 rfl (fun hg11_4 => ?_) (fun hg11_4 => ?_)
       ·
        iterate 5 refine Zt rfl rfl rfl rfl ?_
        iterate 4 refine Zbg rfl rfl rfl ?_
        refine Zt rfl rfl rfl rfl (Zg (Zl rfl rfl rfl) rfl ?_)
        exact Zac rfl ⟨rfl, rfl, rfl, trivial⟩ (by (first | exact fun _ => hlt2 | exact fun h => absurd h (by decide)))
       ·
        refine Zk rfl rfl (ym rfl rfl ?_)
        have hlt2 : i + 1 + j + 1 < s.length := by have := of_decide_eq_false hg11_4; omega
        obtain ⟨c2, hc3, hc4⟩ := byte_at hlt2
        refine Zk rfl rfl (ym rfl rfl (Zk rfl rfl (Zg (Zat rfl Tryz.str9 rfl rfl (j := i + 1 + j + 1) rfl hc3) rfl (Zk rfl rfl (Zg (Zck rfl rfl rfl) rfl (Zk rfl rfl (ym rfl rfl ?_)))))))
        refine Zae 66 rfl (fun hg11_9 => ?_) (fun hg11_9 => ?_)
        ·
         refine Zk rfl rfl (ym rfl rfl (Zk rfl rfl (ym rfl rfl (Zk rfl rfl (Zg (Zat rfl Tryz.str9 rfl rfl (j := i + 1 + j + 1) rfl hc3) rfl (Zk rfl rfl (Zg (Zck rfl rfl rfl) rfl ?_)))))))
         refine Zk rfl rfl (Zg (Zl rfl rfl rfl) rfl (Zg (Zn rfl rfl rfl) rfl ?_))
         exact Zac rfl ⟨rfl, rfl, rfl, trivial⟩ (by (first | exact fun _ => hlt2 | exact fun h => absurd h (by decide)))
        ·
         iterate 4 refine Zt rfl rfl rfl rfl ?_
         refine Zk rfl rfl (Zg (Zn rfl rfl rfl) rfl (Zg (Zn rfl rfl rfl) rfl ?_))
         exact Zac rfl ⟨rfl, rfl, rfl, trivial⟩ (by (first | exact fun _ => hlt2 | exact fun h => absurd h (by decide)))
      refine Zf (ρ' := [(0, _), (1, _), (8, _), (72, _)]) ⟨rfl, rfl, rfl, rfl, trivial⟩ ?_
      refine Zc ?_
      refine Zo rfl (fun hb11 => ?_) (fun hb11 => ?_)
      ·
       skip
       refine Zd (Za (ya rfl rfl (ya rfl rfl (ya rfl rfl (Zf (ρ' := [(4, _), (5, _), (6, _)]) ⟨rfl, rfl, rfl, trivial⟩ ?_)))))
       refine Zc (Zw (Zj (Zu (Zj (Zu (Zj ?_))))))
       refine fin3 (.tmp rfl) (.tmp rfl) (.tmp rfl) ?_
       first | exact ⟨_, 0, _, rfl, Nat.zero_le _⟩ | exact ⟨_, t, _, rfl, ht2⟩ | exact ⟨_, i + 1 + j + 1, _, rfl, by have := hm15_8 hb15; omega⟩
      ·
       have hlt2 := hm11_15 hb11
       refine Zr (Zab ?_)
       first
        | (refine ⟨[(0, _), (1, _), (8, _)], [], ⟨rfl, rfl, rfl, trivial⟩, trivial, i + 1 + j, (VLe.refl _), rfl, rfl, ?_⟩
           exact ⟨rfl, hlt, by omega, by omega⟩)
        | (refine ⟨[(0, _), (1, _), (8, _)], [], ⟨rfl, rfl, rfl, trivial⟩, trivial, i + 1 + j + 1, (VLe.refl _), rfl, rfl, ?_⟩
           exact ⟨rfl, hlt2, by omega, by omega⟩)
     ·
      refine Zr (Zab ?_)
      first
       | (refine ⟨[(0, _), (1, _), (8, _)], [], ⟨rfl, rfl, rfl, trivial⟩, trivial, i + 1 + j, (VLe.refl _), rfl, rfl, ?_⟩
          exact ⟨rfl, hlt, by omega, by omega⟩)
       | (refine ⟨[(0, _), (1, _), (8, _)], [], ⟨rfl, rfl, rfl, trivial⟩, trivial, i + 1 + j + 1, (VLe.refl _), rfl, rfl, ?_⟩
          exact ⟨rfl, hlt2, by omega, by omega⟩)
    ·
     rintro ρ σ uc13 ⟨q, hlc13, rfl, rfl, ⟨rfl, hq1, hq2, hq3⟩⟩
     refine Zd (Za (ym rfl rfl (ym rfl rfl (ym rfl rfl (ym rfl rfl (Zg (Zav rfl rfl rfl (Zs (by omega))) rfl ?_))))))
     refine Zg (Zcc rfl Tryz.str9 rfl (i := q) (j := q + 1) rfl rfl (by omega) (by omega)) rfl (Zg (Zcd rfl rfl rfl (by simp; omega)) rfl (ya rfl rfl (Zf (ρ' := [(0, _), (1, _), (8, _)]) ⟨rfl, rfl, rfl, trivial⟩ ?_)))
     refine Zc (Za (ym rfl rfl (Zg (Zav rfl rfl rfl (Zs (by omega))) rfl ?_)))
     refine ya rfl rfl (Zf (ρ' := [(0, _), (1, _), (8, _)]) ⟨rfl, rfl, rfl, trivial⟩ ?_)
     refine Zah (Zab ?_)
     refine ⟨s.length + 2 - (q - i), [(0, _), (1, _), (8, _)], [], by omega, ⟨rfl, rfl, rfl, trivial⟩, trivial, q - i, by omega, VLe.refl _, _, rfl, (by rw [show ((i + 1 + (q - i) : Nat) : Int) = (q : Int) + 1 by omega]; first | done | rfl), rfl, by simp; omega⟩
   ·
    skip
    refine Zax ?_
    refine Zq (Zq ?_)
    refine Zaf ?_
    refine Zc (Zd (Zd (Za ?_)))
    refine Zbh 9 90 (fun b => b = false → i + 1 + j < s.length) (ρk := [(1, _), (8, _)]) ⟨rfl, rfl, trivial⟩ ?_ fun mb15_8 hm15_8 => ?_
    ·
     refine ym rfl rfl (ym rfl rfl (Zg (Zao rfl rfl Tryz.str9 rfl) rfl (Zg (Zci rfl rfl rfl) rfl (ym rfl rfl ?_))))
     refine Zae 86 rfl (fun hg15_4 => ?_) (fun hg15_4 => ?_)
     ·
      iterate 3 refine Zt rfl rfl rfl rfl ?_
      refine Zg (Zl rfl rfl rfl) rfl ?_
      exact Zac rfl ⟨rfl, rfl, trivial⟩ (by (first | exact fun h => absurd h (by decide) | exact fun _ => (by have := of_decide_eq_false hg15_4; omega)))
     ·
      refine Zk rfl rfl (ym rfl rfl (Zk rfl rfl (Zv rfl rfl ?_)))
      refine Zaa (caps := []) trivial rfl rfl Tryz.c139 rfl (FnP.mono (line3_fn out (by omega) u) ?_)
      rintro v u1 hle1 ⟨b, rfl⟩
      refine Zk rfl rfl (Zg (Zbr rfl rfl) rfl (Zg (Zn rfl rfl rfl) rfl ?_))
      exact Zac rfl ⟨rfl, rfl, trivial⟩ (by (first | exact fun h => absurd h (by decide) | exact fun _ => (by have := of_decide_eq_false hg15_4; omega)))
    refine Zf (ρ' := [(1, _), (8, _), (90, _)]) ⟨rfl, rfl, rfl, trivial⟩ ?_
    refine Zc ?_
    refine Zo rfl (fun hb15 => ?_) (fun hb15 => ?_)
    ·
     refine Zd (Za (ya rfl rfl (ya rfl rfl (ya rfl rfl (Zf (ρ' := [(4, _), (5, _), (6, _)]) ⟨rfl, rfl, rfl, trivial⟩ ?_)))))
     refine Zc (Zw (Zj ?_))
     refine fin3 (.tmp rfl) (.tmp rfl) (.tmp rfl) ?_
     first | exact ⟨_, 0, _, rfl, Nat.zero_le _⟩ | exact ⟨_, t, _, rfl, ht2⟩ | exact ⟨_, i + 1 + j + 1, _, rfl, by have := hm15_8 hb15; omega⟩
    ·
     refine Zr (Zc (Zd (Za (ym rfl rfl (ym rfl rfl (Zg (Zav rfl rfl rfl (Zs (by omega))) rfl ?_))))))
     refine ya rfl rfl (ya rfl rfl (ya rfl rfl (Zf (ρ' := [(4, _), (5, _), (6, _)]) ⟨rfl, rfl, rfl, trivial⟩ ?_)))
     refine Zc (Zw ?_)
     refine fin3 (.tmp rfl) (.tmp rfl) (.tmp rfl) ?_
     first | exact ⟨_, 0, _, rfl, Nat.zero_le _⟩ | exact ⟨_, t, _, rfl, ht2⟩ | exact ⟨_, i + 1 + j + 1, _, rfl, by have := hm15_8 hb15; omega⟩
abbrev clsRow (vc : Value) (cs : List Bs) : PO := (none, .rwv vc 9 1 cs.length (strsC cs))
abbrev prsRow (vp : Value) (ps : List (Bs × Bs)) : PO := (none, .rwv vp 56 2 ps.length (pairsC ps))
theorem strsC_append (a b : List Bs) : strsC (a ++ b) = strsC a ++ strsC b := by simp [strsC]
theorem pairsC_append (a b : List (Bs × Bs)) : pairsC (a ++ b) = pairsC a ++ pairsC b := by simp [pairsC]
theorem class_fn (id name : Bs) (vc vp : Value) (cs : List Bs) (hcs : cs.length ≤ 40) (ho : Value.oneCell' vc = true) (ho2 : Value.oneCell' vp = true) (u : View) :
  FnO Tryz.prog 170 [.agg #[str id, vc, vp], str name] u [clsRow vc cs] fun r u' l' =>
   ∃ (vc' : Value) (cs' : List Bs) (e : Int), r = .tuple #[.agg #[str id, vc', vp], .int .i64 e] ∧ l' = [clsRow vc' cs'] ∧ Value.oneCell' vc' = true ∧ cs'.length ≤ 40 := by
 refine FnO.intro [.cell 4 39, .tmp 5] Tryz.func170 rfl rfl rfl ?_
 intro w0 D hw0
 refine Zd (Za (Zv rfl rfl ?_))
 refine Zbx trivial rfl (cs := [_, _, _]) rfl rfl rfl rfl ?_
 refine Zv rfl rfl ?_
 refine Zas trivial Tryz.z39 rfl rfl rfl ?_
 refine ya rfl rfl (Zf (ρ' := [(1, _), (2, _), (4, _)]) ⟨rfl, rfl, rfl, trivial⟩ ?_)
 refine Zc (Zd (Zd (Za (Zg (Zh rfl Tryz.f39' rfl (by decide) rfl) rfl (Zg (Zi rfl Tryz.k37 rfl rfl rfl (vs := [_]) rfl rfl rfl) rfl (ym rfl rfl (Zv rfl rfl ?_)))))))
 refine do_call_bw (caps := []) 1000 trivial rfl rfl Tryz.c138 rfl rfl ?_
 intro ub hleb hslb
 refine FnP.mono (hasText_fn vc cs name (by omega) ub hslb) ?_
 rintro v u1 hle1 ⟨b, rfl⟩
 refine Zf (ρ' := [(1, _), (2, _), (4, _), (9, _)]) ⟨rfl, rfl, rfl, rfl, trivial⟩ ?_
 refine Zc ?_
 refine Zo rfl (fun hb1 => ?_) (fun hb1 => ?_)
 ·
  refine Zd (Za (Zg (Zi rfl Tryz.k39 rfl rfl rfl (vs := [_, _, _]) rfl rfl rfl) rfl (Zv rfl rfl ?_)))
  refine Zm trivial rfl Tryz.k39 rfl rfl rfl (vs := [_, _, _]) rfl rfl (by simp only [List.all_cons, List.all_nil, ho, ho2]; rfl) (Nat.le_of_ble_eq_true rfl) rfl ?_
  refine ya rfl rfl (Zf (ρ' := [(4, _), (5, _)]) ⟨rfl, rfl, trivial⟩ ?_)
  refine Zc (Zw (Zj ?_))
  refine finO2 [1000] (.cell rfl rfl Tryz.k39 (cs := _) (vs := [_, _, _]) rfl rfl rfl) (.tmp rfl) rfl rfl ?_
  first
  | exact ⟨vc, cs, _, rfl, rfl, ho, hcs⟩
  | (refine ⟨_, cs ++ [name], _, rfl, ?_, rfl, ?_⟩
     ·
      rw [clsRow, List.length_append, strsC_append]; rfl
     ·
      have := of_decide_eq_false hb3; rw [List.length_append]; simp; omega)
 ·
  refine Zr (Zc (Zd (Zd (Za (Zg (Zh rfl Tryz.f39' rfl (by decide) rfl) rfl (Zg (Zi rfl Tryz.k37 rfl rfl rfl (vs := [_]) rfl rfl rfl) rfl (Zg (y_len_w 1000 rfl rfl Tryz.s37 rfl rfl) rfl ?_)))))))
  refine Zg (Zci rfl rfl rfl) rfl (Zf (ρ' := [(1, _), (2, _), (4, _), (14, _)]) ⟨rfl, rfl, rfl, rfl, trivial⟩ ?_)
  refine Zc ?_
  refine Zo rfl (fun hb3 => ?_) (fun hb3 => ?_)
  ·
   refine Zd (Za (Zg (Zi rfl Tryz.k39 rfl rfl rfl (vs := [_, _, _]) rfl rfl rfl) rfl (Zv rfl rfl ?_)))
   refine Zm trivial rfl Tryz.k39 rfl rfl rfl (vs := [_, _, _]) rfl rfl (by simp only [List.all_cons, List.all_nil, ho, ho2]; rfl) (Nat.le_of_ble_eq_true rfl) rfl ?_
   refine ya rfl rfl (Zf (ρ' := [(4, _), (5, _)]) ⟨rfl, rfl, trivial⟩ ?_)
   refine Zc (Zw (Zj ?_))
   refine finO2 [1000] (.cell rfl rfl Tryz.k39 (cs := _) (vs := [_, _, _]) rfl rfl rfl) (.tmp rfl) rfl rfl ?_
   first
   | exact ⟨vc, cs, _, rfl, rfl, ho, hcs⟩
   | (refine ⟨_, cs ++ [name], _, rfl, ?_, rfl, ?_⟩
      ·
       rw [clsRow, List.length_append, strsC_append]; rfl
      ·
       have := of_decide_eq_false hb3; rw [List.length_append]; simp; omega)
  ·
   refine Zr (Zc (Zd (Za (Zg (Zh rfl Tryz.f39' rfl (by decide) rfl) rfl (Zg (Zi rfl Tryz.k37 rfl rfl rfl (vs := [_]) rfl rfl rfl) rfl (ym rfl rfl (Zv rfl rfl ?_)))))))
   refine Zak trivial Tryz.s37 Tryz.z9 (ps := [(_, _)]) rfl (xs := [_]) rfl rfl rfl rfl rfl rfl rfl ?_
   refine Zv rfl rfl ?_
   refine Zca 1000 trivial rfl rfl Tryz.s37 Tryz.z9 rfl rfl rfl rfl rfl rfl rfl (by omega) (by omega) rfl rfl ?_
   intro ad5 cap5
   refine Zg (Zh rfl Tryz.f39' rfl (by decide) rfl) rfl (Zv rfl rfl ?_)
   refine Zm trivial rfl Tryz.k37 rfl rfl rfl (vs := [_]) rfl rfl (by first | rfl | assumption | simp [Value.oneCell', str]) (Nat.le_of_ble_eq_true rfl) rfl ?_
   refine Zf (ρ' := [(2, _), (4, _)]) ⟨rfl, rfl, trivial⟩ ?_
   refine Zc (Zd (Za (Zg (Zi rfl Tryz.k39 rfl rfl rfl (vs := [_, _, _]) rfl rfl rfl) rfl (Zv rfl rfl ?_))))
   refine Zm trivial rfl Tryz.k39 rfl rfl rfl (vs := [_, _, _]) rfl rfl (by simp only [List.all_cons, List.all_nil, ho, ho2]; rfl) (Nat.le_of_ble_eq_true rfl) rfl ?_
   refine ya rfl rfl (Zf (ρ' := [(4, _), (5, _)]) ⟨rfl, rfl, trivial⟩ ?_)
   refine Zc (Zw ?_)
   refine finO2 [1000] (.cell rfl rfl Tryz.k39 (cs := _) (vs := [_, _, _]) rfl rfl rfl) (.tmp rfl) rfl rfl ?_
   first
   | exact ⟨vc, cs, _, rfl, rfl, ho, hcs⟩
   | (refine ⟨_, cs ++ [name], _, rfl, ?_, rfl, ?_⟩
      ·
       rw [clsRow, List.length_append, strsC_append]; rfl
      ·
       have := of_decide_eq_false hb3; rw [List.length_append]; simp; omega)
set_option maxHeartbeats 1000000 in
theorem item_fn (id s : Bs) (i : Nat) (hi : i < s.length) (hs : s.length ≤ 1000000) (vc vp : Value) (cs : List Bs) (ps : List (Bs × Bs)) (hcs : cs.length ≤ 40) (hps : ps.length ≤ 40) (ho : Value.oneCell' vc = true) (ho2 : Value.oneCell' vp = true) (u : View) :
  FnO Tryz.prog 163 [.agg #[str id, vc, vp], str s, .int .i64 i] u [clsRow vc cs, prsRow vp ps] fun r u' l' =>
   ∃ (id' : Bs) (vc' vp' : Value) (cs' : List Bs) (ps' : List (Bs × Bs)) (t : Nat) (e : Int), r = .tuple #[.agg #[str id', vc', vp'], .int .i64 t, .int .i64 e] ∧ l' = [clsRow vc' cs', prsRow vp' ps'] ∧ Value.oneCell' vc' = true ∧ Value.oneCell' vp' = true ∧ cs'.length ≤ 40 ∧ ps'.length ≤ 40 ∧ t ≤ s.length := by
 obtain ⟨c, hc, hc2⟩ := byte_at hi
 refine FnO.intro [.cell 6 39, .tmp 7, .tmp 8] Tryz.func163 rfl rfl rfl ?_
 intro w0 D hw0
 refine Zd (Za (Zv rfl rfl ?_))
 refine Zbx trivial rfl (cs := [_, _, _]) rfl rfl rfl rfl ?_
 refine Zv rfl rfl ?_
 refine Zas trivial Tryz.z39 rfl rfl rfl ?_
 refine ya rfl rfl (ya rfl rfl (Zf (ρ' := [(1, _), (2, _), (3, _), (6, _)]) ⟨rfl, rfl, rfl, rfl, trivial⟩ ?_))
 refine Zc (Zd (Za (ym rfl rfl (ya rfl rfl (Zf (ρ' := [(1, _), (2, _), (3, _), (6, _), (9, _)]) ⟨rfl, rfl, rfl, rfl, rfl, trivial⟩ ?_)))))
 refine Zc ?_
 refine Zbu (fun ρ σ uc4 => ∃ (fr : Nat), VLe u uc4 ∧ σ = [(3, (none, .box [str id, vc, vp])), (6, (none, .box [str [], .slice none 0 0, .slice none 0 0])), (1000, clsRow vc cs), (1001, prsRow vp ps)] ∧ ρ = [(1, .v (str s)), (2, .v (.int .i64 i)), (3, .p 3 0), (6, .p 6 0), (9, .v (.int .i64 (fr : Nat)))] ∧ (u = uc4 ∧ fr ≤ s.length)) ?_ ?_
 ·
  refine Zd (Za ?_)
  refine Zbh 10 27 (fun _ => True) (ρk := [(1, _), (2, _), (3, _), (6, _), (9, _)]) ⟨rfl, rfl, rfl, rfl, rfl, trivial⟩ ?_ fun mb2_9 hm2_9 => ?_
  ·
   refine ym rfl rfl (ym rfl rfl (Zg (Zat rfl Tryz.str9 rfl rfl (j := i) rfl hc) rfl (Zg (Zaw rfl rfl rfl) rfl (ym rfl rfl ?_))))
   refine Zae 22 rfl (fun hg2_4 => ?_) (fun hg2_4 => ?_)
   ·
    iterate 4 refine Zt rfl rfl rfl rfl ?_
    refine Zg (Zl rfl rfl rfl) rfl ?_
    exact Zac rfl ⟨rfl, rfl, rfl, rfl, rfl, trivial⟩ (trivial)
   ·
    refine Zk rfl rfl (ym rfl rfl (Zk rfl rfl (ym rfl rfl (Zk rfl rfl (Zg (Zat rfl Tryz.str9 rfl rfl (j := i) rfl hc) rfl (Zk rfl rfl (Zg (Zaw rfl rfl rfl) rfl ?_)))))))
    refine Zg (Zn rfl rfl rfl) rfl ?_
    exact Zac rfl ⟨rfl, rfl, rfl, rfl, rfl, trivial⟩ (trivial)
  refine Zf (ρ' := [(1, _), (2, _), (3, _), (6, _), (9, _), (27, _)]) ⟨rfl, rfl, rfl, rfl, rfl, rfl, trivial⟩ ?_
  refine Zc ?_
  refine Zo rfl (fun hb2 => ?_) (fun hb2 => ?_)
  ·
   refine Za (ym rfl rfl (Zg (Zav rfl rfl rfl (Zs (by omega))) rfl ?_))
   refine ya rfl rfl (Zf (ρ' := [(1, _), (2, _), (3, _), (6, _), (9, _)]) ⟨rfl, rfl, rfl, rfl, rfl, trivial⟩ ?_)
   refine Zab ?_
   first
    | (refine ⟨[(1, _), (2, _), (3, _), (6, _), (9, _)], [(3, _), (6, _), (1000, _), (1001, _)], ⟨rfl, rfl, rfl, rfl, rfl, trivial⟩, ⟨rfl, rfl, rfl, rfl, trivial⟩, i + 1, (VLe.refl _), rfl, rfl, ?_⟩
       exact ⟨rfl, hi⟩)
    | (refine ⟨[(1, _), (2, _), (3, _), (6, _), (9, _)], [(3, _), (6, _), (1000, _), (1001, _)], ⟨rfl, rfl, rfl, rfl, rfl, trivial⟩, ⟨rfl, rfl, rfl, rfl, trivial⟩, i, (VLe.refl _), rfl, rfl, ?_⟩
       exact ⟨rfl, by omega⟩)
  ·
   refine Zr (Zab ?_)
   first
    | (refine ⟨[(1, _), (2, _), (3, _), (6, _), (9, _)], [(3, _), (6, _), (1000, _), (1001, _)], ⟨rfl, rfl, rfl, rfl, rfl, trivial⟩, ⟨rfl, rfl, rfl, rfl, trivial⟩, i + 1, (VLe.refl _), rfl, rfl, ?_⟩
       exact ⟨rfl, hi⟩)
    | (refine ⟨[(1, _), (2, _), (3, _), (6, _), (9, _)], [(3, _), (6, _), (1000, _), (1001, _)], ⟨rfl, rfl, rfl, rfl, rfl, trivial⟩, ⟨rfl, rfl, rfl, rfl, trivial⟩, i, (VLe.refl _), rfl, rfl, ?_⟩
       exact ⟨rfl, by omega⟩)
 ·
  rintro ρ σ uc4 ⟨fr, hlc4, rfl, rfl, ⟨rfl, hfr⟩⟩
  refine Zd (Za (ym rfl rfl (ym rfl rfl (Zv rfl rfl ?_))))
  refine Zaa (caps := []) trivial rfl rfl Tryz.c72 rfl (FnP.mono (kword_fn s fr hfr (by omega) u) ?_)
  rintro v u1 hle1 ⟨t, rfl, ht1, ht2⟩
  refine ya rfl rfl (Zf (ρ' := [(1, _), (2, _), (3, _), (6, _), (9, _), (10, _)]) ⟨rfl, rfl, rfl, rfl, rfl, rfl, trivial⟩ ?_)
  refine Zc (Zd (Zd (Za (ym rfl rfl (ym rfl rfl (ym rfl rfl (Zg (Zcc rfl Tryz.str9 rfl (i := fr) (j := t) rfl rfl ht1 ht2) rfl (Zv rfl rfl ?_))))))))
  refine Zaa (caps := []) trivial rfl rfl Tryz.c34 rfl (FnP.mono (name_fn _ (by simp; omega) u) ?_)
  rintro v u1 hle1 ⟨b, rfl, _⟩
  refine Zg (Zbr rfl rfl) rfl (Zf (ρ' := [(1, _), (2, _), (3, _), (6, _), (9, _), (10, _), (38, _)]) ⟨rfl, rfl, rfl, rfl, rfl, rfl, rfl, trivial⟩ ?_)
  refine Zc ?_
  refine Zo rfl (fun hb5 => ?_) (fun hb5 => ?_)
  ·
   refine Zd (Za (Zg (Zi rfl Tryz.k39 rfl rfl rfl (vs := [_, _, _]) rfl rfl rfl) rfl (Zv rfl rfl ?_)))
   refine Zm trivial rfl Tryz.k39 rfl rfl rfl (vs := [_, _, _]) rfl rfl (by simp only [List.all_cons, List.all_nil, ho, ho2]; rfl) (Nat.le_of_ble_eq_true rfl) rfl ?_
   refine ya rfl rfl (ya rfl rfl (Zf (ρ' := [(6, _), (7, _), (8, _)]) ⟨rfl, rfl, rfl, trivial⟩ ?_))
   refine Zc (Zw (Zj ?_))
   refine finO3 [1000, 1001] (.cell rfl rfl Tryz.k39 (cs := _) (vs := [_, _, _]) rfl rfl rfl) (.tmp rfl) (.tmp rfl) rfl rfl ?_
   first
   | exact ⟨_, vc, vp, cs, ps, 0, _, rfl, rfl, ho, ho2, hcs, hps, Nat.zero_le _⟩
   | exact ⟨_, vc, vp, cs, ps, t, _, rfl, rfl, ho, ho2, hcs, hps, ht2⟩
   | exact ⟨_, vc2, vp, cs2, ps, t, _, rfl, rfl, o2, ho2, hcs2, hps, ht2⟩
   | (refine ⟨_, vc, _, cs, ps ++ [(nm, v7)], t7, _, rfl, ?_, ho, rfl, hcs, ?_, ht7⟩
      ·
       rw [prsRow, List.length_append, pairsC_append]; rfl
      ·
       have := of_decide_eq_false hb23; rw [List.length_append]; simp; omega)
  ·
   refine Zr (Zc (Zd (Za (ym rfl rfl (ym rfl rfl (ym rfl rfl (Zg (Zcc rfl Tryz.str9 rfl (i := fr) (j := t) rfl rfl ht1 ht2) rfl ?_)))))))
   generalize hnm : ((s.drop fr).take (t - fr)) = nm
   refine ya rfl rfl (Zf (ρ' := [(1, _), (2, _), (3, _), (6, _), (10, _), (11, _)]) ⟨rfl, rfl, rfl, rfl, rfl, rfl, trivial⟩ ?_)
   refine Zc (Zd (Zd (Za (ym rfl rfl (ym rfl rfl (Zg (Zat rfl Tryz.str9 rfl rfl (j := i) rfl hc) rfl (Zg (Zaw rfl rfl rfl) rfl (Zf (ρ' := [(1, _), (2, _), (3, _), (6, _), (10, _), (11, _), (47, _)]) ⟨rfl, rfl, rfl, rfl, rfl, rfl, rfl, trivial⟩ ?_))))))))
   refine Zc ?_
   refine Zo rfl (fun hb8 => ?_) (fun hb8 => ?_)
   ·
    refine Zd (Zd (Za (Zg (Zh rfl Tryz.f39' rfl (by decide) rfl) rfl (Zg (Zi rfl Tryz.k9 rfl rfl rfl (vs := [_]) rfl rfl rfl) rfl (Zg (Zbv rfl rfl rfl) rfl (Zf (ρ' := [(3, _), (6, _), (10, _), (11, _), (50, _)]) ⟨rfl, rfl, rfl, rfl, rfl, trivial⟩ ?_))))))
    refine Zc ?_
    refine Zo rfl (fun hb9 => ?_) (fun hb9 => ?_)
    ·
     refine Zd (Za (Zg (Zi rfl Tryz.k39 rfl rfl rfl (vs := [_, _, _]) rfl rfl rfl) rfl (Zv rfl rfl ?_)))
     refine Zm trivial rfl Tryz.k39 rfl rfl rfl (vs := [_, _, _]) rfl rfl (by simp only [List.all_cons, List.all_nil, ho, ho2]; rfl) (Nat.le_of_ble_eq_true rfl) rfl ?_
     refine ya rfl rfl (ya rfl rfl (Zf (ρ' := [(6, _), (7, _), (8, _)]) ⟨rfl, rfl, rfl, trivial⟩ ?_))
     refine Zc (Zw (Zj (Zj ?_)))
     refine finO3 [1000, 1001] (.cell rfl rfl Tryz.k39 (cs := _) (vs := [_, _, _]) rfl rfl rfl) (.tmp rfl) (.tmp rfl) rfl rfl ?_
     first
     | exact ⟨_, vc, vp, cs, ps, 0, _, rfl, rfl, ho, ho2, hcs, hps, Nat.zero_le _⟩
     | exact ⟨_, vc, vp, cs, ps, t, _, rfl, rfl, ho, ho2, hcs, hps, ht2⟩
     | exact ⟨_, vc2, vp, cs2, ps, t, _, rfl, rfl, o2, ho2, hcs2, hps, ht2⟩
     | (refine ⟨_, vc, _, cs, ps ++ [(nm, v7)], t7, _, rfl, ?_, ho, rfl, hcs, ?_, ht7⟩
        ·
         rw [prsRow, List.length_append, pairsC_append]; rfl
        ·
         have := of_decide_eq_false hb23; rw [List.length_append]; simp; omega)
    ·
     refine Zr (Zc (Zd (Za (ym rfl rfl (Zg (Zh rfl Tryz.f39' rfl (by decide) rfl) rfl (Zv rfl rfl ?_))))))
     refine Zm trivial rfl Tryz.k9 rfl rfl rfl (vs := [_]) rfl rfl (by first | rfl | assumption | simp [Value.oneCell', str]) (Nat.le_of_ble_eq_true rfl) rfl ?_
     refine Zf (ρ' := [(3, _), (6, _), (10, _)]) ⟨rfl, rfl, rfl, trivial⟩ ?_
     refine Zc (Zd (Za (Zg (Zi rfl Tryz.k39 rfl rfl rfl (vs := [_, _, _]) rfl rfl rfl) rfl (ym rfl rfl (Zv rfl rfl ?_)))))
     refine Zm trivial rfl Tryz.k39 rfl rfl rfl (vs := [_, _, _]) rfl rfl (by simp only [List.all_cons, List.all_nil, ho, ho2]; rfl) (Nat.le_of_ble_eq_true rfl) rfl ?_
     refine ya rfl rfl (ya rfl rfl (Zf (ρ' := [(6, _), (7, _), (8, _)]) ⟨rfl, rfl, rfl, trivial⟩ ?_))
     refine Zc (Zw (Zj ?_))
     refine finO3 [1000, 1001] (.cell rfl rfl Tryz.k39 (cs := _) (vs := [_, _, _]) rfl rfl rfl) (.tmp rfl) (.tmp rfl) rfl rfl ?_
     first
     | exact ⟨_, vc, vp, cs, ps, 0, _, rfl, rfl, ho, ho2, hcs, hps, Nat.zero_le _⟩
     | exact ⟨_, vc, vp, cs, ps, t, _, rfl, rfl, ho, ho2, hcs, hps, ht2⟩
     | exact ⟨_, vc2, vp, cs2, ps, t, _, rfl, rfl, o2, ho2, hcs2, hps, ht2⟩
     | (refine ⟨_, vc, _, cs, ps ++ [(nm, v7)], t7, _, rfl, ?_, ho, rfl, hcs, ?_, ht7⟩
        ·
         rw [prsRow, List.length_append, pairsC_append]; rfl
        ·
         have := of_decide_eq_false hb23; rw [List.length_append]; simp; omega)
   ·
    refine Zr (Zc (Zd (Zd (Za (ym rfl rfl (ym rfl rfl (Zg (Zat rfl Tryz.str9 rfl rfl (j := i) rfl hc) rfl ?_)))))))
    refine Zg (Zaw rfl rfl rfl) rfl (Zf (ρ' := [(1, _), (3, _), (6, _), (10, _), (11, _), (59, _)]) ⟨rfl, rfl, rfl, rfl, rfl, rfl, trivial⟩ ?_)
    refine Zc ?_
    refine Zo rfl (fun hb13 => ?_) (fun hb13 => ?_)
    ·
     refine Zd (Za (Zg (Zi rfl Tryz.k39 rfl rfl rfl (vs := [_, _, _]) rfl rfl rfl) rfl (ym rfl rfl (Zv rfl rfl ?_))))
     refine Zaj (caps := []) (ρ' := [(6, _), (10, _)]) [1000] [] trivial rfl rfl rfl Tryz.c170 rfl rfl ⟨rfl, rfl, trivial⟩ rfl rfl rfl (FnO.mono (class_fn id nm vc vp cs hcs ho ho2 u) ?_)
     rintro v uC l1 hleC ⟨vc2, cs2, e2, rfl, rfl, o2, hcs2⟩ -
     refine ⟨⟨fun _ h => h, trivial⟩, ?_⟩
     refine ym rfl rfl (Zg (Zbj rfl rfl rfl) rfl (Zg (Zbj rfl rfl rfl) rfl (Zv rfl rfl ?_)))
     refine Zas trivial Tryz.z39 rfl rfl rfl ?_
     refine Zv rfl rfl ?_
     refine Zm trivial rfl Tryz.k39 rfl rfl rfl (vs := [_, _, _]) rfl rfl (by simp only [List.all_cons, List.all_nil, o2, ho2]; rfl) (Nat.le_of_ble_eq_true rfl) rfl ?_
     refine ya rfl rfl (Zf (ρ' := [(6, _), (10, _), (12, _), (13, _)]) ⟨rfl, rfl, rfl, rfl, trivial⟩ ?_)
     refine Zc (Zd (Za (Zg (Zi rfl Tryz.k39 rfl rfl rfl (vs := [_, _, _]) rfl rfl rfl) rfl (ym rfl rfl (ym rfl rfl (Zv rfl rfl ?_))))))
     refine Zm trivial rfl Tryz.k39 rfl rfl rfl (vs := [_, _, _]) rfl rfl (by simp only [List.all_cons, List.all_nil, o2, ho2]; rfl) (Nat.le_of_ble_eq_true rfl) rfl ?_
     refine ya rfl rfl (ya rfl rfl (Zf (ρ' := [(6, _), (7, _), (8, _)]) ⟨rfl, rfl, rfl, trivial⟩ ?_))
     refine Zc (Zw (Zj ?_))
     refine finO3 [1000, 1001] (.cell rfl rfl Tryz.k39 (cs := _) (vs := [_, _, _]) rfl rfl rfl) (.tmp rfl) (.tmp rfl) rfl rfl ?_
     first
     | exact ⟨_, vc, vp, cs, ps, 0, _, rfl, rfl, ho, ho2, hcs, hps, Nat.zero_le _⟩
     | exact ⟨_, vc, vp, cs, ps, t, _, rfl, rfl, ho, ho2, hcs, hps, ht2⟩
     | exact ⟨_, vc2, vp, cs2, ps, t, _, rfl, rfl, o2, ho2, hcs2, hps, ht2⟩
     | (refine ⟨_, vc, _, cs, ps ++ [(nm, v7)], t7, _, rfl, ?_, ho, rfl, hcs, ?_, ht7⟩
        ·
         rw [prsRow, List.length_append, pairsC_append]; rfl
        ·
         have := of_decide_eq_false hb23; rw [List.length_append]; simp; omega)
    ·
     refine Zr (Zc (Zd (Zd (Za ?_))))
     refine Zbh 10 78 (fun b => b = false → t < s.length) (ρk := [(1, _), (3, _), (6, _), (10, _), (11, _)]) ⟨rfl, rfl, rfl, rfl, rfl, trivial⟩ ?_ fun mb16_9 hm16_9 => ?_
     ·
      refine ym rfl rfl (ym rfl rfl (Zg (Zao rfl rfl Tryz.str9 rfl) rfl (Zg (Zci rfl rfl rfl) rfl (ym rfl rfl ?_))))
      refine Zae 73 rfl (fun hg16_4 => ?_) (fun hg16_4 => ?_)
      ·
       iterate 4 refine Zt rfl rfl rfl rfl ?_
       refine Zg (Zl rfl rfl rfl) rfl ?_
       exact Zac rfl ⟨rfl, rfl, rfl, rfl, rfl, trivial⟩ (by (first | exact fun _ => hlt | exact fun h => absurd h (by decide)))
      ·
       refine Zk rfl rfl (ym rfl rfl ?_)
       have hlt : t < s.length := by have := of_decide_eq_false hg16_4; omega
       obtain ⟨c5, hc5, hc6⟩ := byte_at hlt
       refine Zk rfl rfl (ym rfl rfl (Zk rfl rfl (Zg (Zat rfl Tryz.str9 rfl rfl (j := t) rfl hc5) rfl (Zk rfl rfl (Zg (Zck rfl rfl rfl) rfl (Zg (Zn rfl rfl rfl) rfl ?_))))))
       exact Zac rfl ⟨rfl, rfl, rfl, rfl, rfl, trivial⟩ (by (first | exact fun _ => hlt | exact fun h => absurd h (by decide)))
     refine Zf (ρ' := [(1, _), (3, _), (6, _), (10, _), (11, _), (78, _)]) ⟨rfl, rfl, rfl, rfl, rfl, rfl, trivial⟩ ?_
     refine Zc ?_
     refine Zo rfl (fun hb16 => ?_) (fun hb16 => ?_)
     ·
      skip
      refine Zd (Za (Zg (Zi rfl Tryz.k39 rfl rfl rfl (vs := [_, _, _]) rfl rfl rfl) rfl (Zv rfl rfl ?_)))
      refine Zm trivial rfl Tryz.k39 rfl rfl rfl (vs := [_, _, _]) rfl rfl (by simp only [List.all_cons, List.all_nil, ho, ho2]; rfl) (Nat.le_of_ble_eq_true rfl) rfl ?_
      refine ya rfl rfl (ya rfl rfl (Zf (ρ' := [(6, _), (7, _), (8, _)]) ⟨rfl, rfl, rfl, trivial⟩ ?_))
      refine Zc (Zw (Zj ?_))
      refine finO3 [1000, 1001] (.cell rfl rfl Tryz.k39 (cs := _) (vs := [_, _, _]) rfl rfl rfl) (.tmp rfl) (.tmp rfl) rfl rfl ?_
      first
      | exact ⟨_, vc, vp, cs, ps, 0, _, rfl, rfl, ho, ho2, hcs, hps, Nat.zero_le _⟩
      | exact ⟨_, vc, vp, cs, ps, t, _, rfl, rfl, ho, ho2, hcs, hps, ht2⟩
      | exact ⟨_, vc2, vp, cs2, ps, t, _, rfl, rfl, o2, ho2, hcs2, hps, ht2⟩
      | (refine ⟨_, vc, _, cs, ps ++ [(nm, v7)], t7, _, rfl, ?_, ho, rfl, hcs, ?_, ht7⟩
         ·
          rw [prsRow, List.length_append, pairsC_append]; rfl
         ·
          have := of_decide_eq_false hb23; rw [List.length_append]; simp; omega)
     ·
      have hlt := hm16_9 hb16
      refine Zr (Zc (Zd (Za (ym rfl rfl (ym rfl rfl (Zg (Zav rfl rfl rfl (Zs (by omega))) rfl ?_))))))
      refine Zv rfl rfl ?_
      refine Zaa (caps := []) trivial rfl rfl Tryz.c171 rfl (FnP.mono (kvalue_fn s (t + 1) hlt hs _) ?_)
      rintro v u1 hle1 ⟨v7, t7, b7, rfl, ht7⟩
      refine ym rfl rfl (Zg (Zbj rfl rfl rfl) rfl (Zg (Zbj rfl rfl rfl) rfl (Zg (Zbj rfl rfl rfl) rfl (ya rfl rfl (ya rfl rfl (ya rfl rfl (Zf (ρ' := [(3, _), (6, _), (11, _), (14, _), (15, _), (16, _)]) ⟨rfl, rfl, rfl, rfl, rfl, rfl, trivial⟩ ?_)))))))
      refine Zc (Zd (Zd (Za (ym rfl rfl (Zg (Zbr rfl rfl) rfl (Zf (ρ' := [(3, _), (6, _), (11, _), (14, _), (15, _), (89, _)]) ⟨rfl, rfl, rfl, rfl, rfl, rfl, trivial⟩ ?_))))))
      refine Zc ?_
      refine Zo rfl (fun hb19 => ?_) (fun hb19 => ?_)
      ·
       refine Zd (Za (Zg (Zi rfl Tryz.k39 rfl rfl rfl (vs := [_, _, _]) rfl rfl rfl) rfl (Zv rfl rfl ?_)))
       refine Zm trivial rfl Tryz.k39 rfl rfl rfl (vs := [_, _, _]) rfl rfl (by simp only [List.all_cons, List.all_nil, ho, ho2]; rfl) (Nat.le_of_ble_eq_true rfl) rfl ?_
       refine ya rfl rfl (ya rfl rfl (Zf (ρ' := [(6, _), (7, _), (8, _)]) ⟨rfl, rfl, rfl, trivial⟩ ?_))
       refine Zc (Zw (Zj ?_))
       refine finO3 [1000, 1001] (.cell rfl rfl Tryz.k39 (cs := _) (vs := [_, _, _]) rfl rfl rfl) (.tmp rfl) (.tmp rfl) rfl rfl ?_
       first
       | exact ⟨_, vc, vp, cs, ps, 0, _, rfl, rfl, ho, ho2, hcs, hps, Nat.zero_le _⟩
       | exact ⟨_, vc, vp, cs, ps, t, _, rfl, rfl, ho, ho2, hcs, hps, ht2⟩
       | exact ⟨_, vc2, vp, cs2, ps, t, _, rfl, rfl, o2, ho2, hcs2, hps, ht2⟩
       | (refine ⟨_, vc, _, cs, ps ++ [(nm, v7)], t7, _, rfl, ?_, ho, rfl, hcs, ?_, ht7⟩
          ·
           rw [prsRow, List.length_append, pairsC_append]; rfl
          ·
           have := of_decide_eq_false hb23; rw [List.length_append]; simp; omega)
      ·
       refine Zr (Zc (Zd (Zd (Za (Zg (Zh rfl Tryz.f39' rfl (by decide) rfl) rfl (Zg (Zi rfl Tryz.k22 rfl rfl rfl (vs := [_]) rfl rfl rfl) rfl (ym rfl rfl (Zv rfl rfl ?_))))))))
       refine do_call_bw (caps := []) 1001 trivial rfl rfl Tryz.c140 rfl rfl ?_
       intro ub hleb hslb
       refine FnP.mono (hasKey_fn vp ps nm (by omega) ub hslb) ?_
       rintro v u1 hle1 ⟨b8, rfl⟩
       refine Zf (ρ' := [(3, _), (6, _), (11, _), (14, _), (15, _), (94, _)]) ⟨rfl, rfl, rfl, rfl, rfl, rfl, trivial⟩ ?_
       refine Zc ?_
       refine Zo rfl (fun hb21 => ?_) (fun hb21 => ?_)
       ·
        refine Zd (Za (Zg (Zi rfl Tryz.k39 rfl rfl rfl (vs := [_, _, _]) rfl rfl rfl) rfl (Zv rfl rfl ?_)))
        refine Zm trivial rfl Tryz.k39 rfl rfl rfl (vs := [_, _, _]) rfl rfl (by simp only [List.all_cons, List.all_nil, ho, ho2]; rfl) (Nat.le_of_ble_eq_true rfl) rfl ?_
        refine ya rfl rfl (ya rfl rfl (Zf (ρ' := [(6, _), (7, _), (8, _)]) ⟨rfl, rfl, rfl, trivial⟩ ?_))
        refine Zc (Zw (Zj ?_))
        refine finO3 [1000, 1001] (.cell rfl rfl Tryz.k39 (cs := _) (vs := [_, _, _]) rfl rfl rfl) (.tmp rfl) (.tmp rfl) rfl rfl ?_
        first
        | exact ⟨_, vc, vp, cs, ps, 0, _, rfl, rfl, ho, ho2, hcs, hps, Nat.zero_le _⟩
        | exact ⟨_, vc, vp, cs, ps, t, _, rfl, rfl, ho, ho2, hcs, hps, ht2⟩
        | exact ⟨_, vc2, vp, cs2, ps, t, _, rfl, rfl, o2, ho2, hcs2, hps, ht2⟩
        | (refine ⟨_, vc, _, cs, ps ++ [(nm, v7)], t7, _, rfl, ?_, ho, rfl, hcs, ?_, ht7⟩
           ·
            rw [prsRow, List.length_append, pairsC_append]; rfl
           ·
            have := of_decide_eq_false hb23; rw [List.length_append]; simp; omega)
       ·
        refine Zr (Zc (Zd (Zd (Za (Zg (Zh rfl Tryz.f39' rfl (by decide) rfl) rfl (Zg (Zi rfl Tryz.k22 rfl rfl rfl (vs := [_]) rfl rfl rfl) rfl (Zg (y_len_w 1001 rfl rfl Tryz.s22 rfl rfl) rfl ?_)))))))
        refine Zg (Zci rfl rfl rfl) rfl (Zf (ρ' := [(3, _), (6, _), (11, _), (14, _), (15, _), (99, _)]) ⟨rfl, rfl, rfl, rfl, rfl, rfl, trivial⟩ ?_)
        refine Zc ?_
        refine Zo rfl (fun hb23 => ?_) (fun hb23 => ?_)
        ·
         refine Zd (Za (Zg (Zi rfl Tryz.k39 rfl rfl rfl (vs := [_, _, _]) rfl rfl rfl) rfl (Zv rfl rfl ?_)))
         refine Zm trivial rfl Tryz.k39 rfl rfl rfl (vs := [_, _, _]) rfl rfl (by simp only [List.all_cons, List.all_nil, ho, ho2]; rfl) (Nat.le_of_ble_eq_true rfl) rfl ?_
         refine ya rfl rfl (ya rfl rfl (Zf (ρ' := [(6, _), (7, _), (8, _)]) ⟨rfl, rfl, rfl, trivial⟩ ?_))
         refine Zc (Zw (Zj ?_))
         refine finO3 [1000, 1001] (.cell rfl rfl Tryz.k39 (cs := _) (vs := [_, _, _]) rfl rfl rfl) (.tmp rfl) (.tmp rfl) rfl rfl ?_
         first
         | exact ⟨_, vc, vp, cs, ps, 0, _, rfl, rfl, ho, ho2, hcs, hps, Nat.zero_le _⟩
         | exact ⟨_, vc, vp, cs, ps, t, _, rfl, rfl, ho, ho2, hcs, hps, ht2⟩
         | exact ⟨_, vc2, vp, cs2, ps, t, _, rfl, rfl, o2, ho2, hcs2, hps, ht2⟩
         | (refine ⟨_, vc, _, cs, ps ++ [(nm, v7)], t7, _, rfl, ?_, ho, rfl, hcs, ?_, ht7⟩
            ·
             rw [prsRow, List.length_append, pairsC_append]; rfl
            ·
             have := of_decide_eq_false hb23; rw [List.length_append]; simp; omega)
        ·
         refine Zr (Zc (Zd (Za (Zg (Zh rfl Tryz.f39' rfl (by decide) rfl) rfl (Zg (Zi rfl Tryz.k22 rfl rfl rfl (vs := [_]) rfl rfl rfl) rfl (ym rfl rfl (ym rfl rfl (Zg (Zbf rfl Tryz.f56' Tryz.z56 (ps := [(_, _), (_, _)]) rfl (vs := [_, _]) rfl) rfl ?_))))))))
         refine Zv rfl rfl ?_
         refine Zak trivial Tryz.s22 Tryz.z56 (ps := [(_, _)]) rfl (xs := [_, _]) rfl rfl rfl rfl rfl rfl rfl ?_
         refine Zv rfl rfl ?_
         refine Zca 1001 trivial rfl rfl Tryz.s22 Tryz.z56 rfl rfl rfl rfl rfl rfl rfl (by omega) (by omega) rfl rfl ?_
         intro ad9 cap9
         refine Zg (Zh rfl Tryz.f39' rfl (by decide) rfl) rfl (Zv rfl rfl ?_)
         refine Zm trivial rfl Tryz.k22 rfl rfl rfl (vs := [_]) rfl rfl (by first | rfl | assumption | simp [Value.oneCell', str]) (Nat.le_of_ble_eq_true rfl) rfl ?_
         refine Zf (ρ' := [(3, _), (6, _), (15, _)]) ⟨rfl, rfl, rfl, trivial⟩ ?_
         refine Zc (Zd (Za (Zg (Zi rfl Tryz.k39 rfl rfl rfl (vs := [_, _, _]) rfl rfl rfl) rfl (ym rfl rfl (Zv rfl rfl ?_)))))
         refine Zm trivial rfl Tryz.k39 rfl rfl rfl (vs := [_, _, _]) rfl rfl (by simp only [List.all_cons, List.all_nil, ho, ho2]; rfl) (Nat.le_of_ble_eq_true rfl) rfl ?_
         refine ya rfl rfl (ya rfl rfl (Zf (ρ' := [(6, _), (7, _), (8, _)]) ⟨rfl, rfl, rfl, trivial⟩ ?_))
         refine Zc (Zw ?_)
         refine finO3 [1000, 1001] (.cell rfl rfl Tryz.k39 (cs := _) (vs := [_, _, _]) rfl rfl rfl) (.tmp rfl) (.tmp rfl) rfl rfl ?_
         first
         | exact ⟨_, vc, vp, cs, ps, 0, _, rfl, rfl, ho, ho2, hcs, hps, Nat.zero_le _⟩
         | exact ⟨_, vc, vp, cs, ps, t, _, rfl, rfl, ho, ho2, hcs, hps, ht2⟩
         | exact ⟨_, vc2, vp, cs2, ps, t, _, rfl, rfl, o2, ho2, hcs2, hps, ht2⟩
         | (refine ⟨_, vc, _, cs, ps ++ [(nm, v7)], t7, _, rfl, ?_, ho, rfl, hcs, ?_, ht7⟩
            ·
             rw [prsRow, List.length_append, pairsC_append]; rfl
            ·
             have := of_decide_eq_false hb23; rw [List.length_append]; simp; omega)
def inB (k : Int) (l : List Int) : Bool := decide (k ∈ l)
theorem in4_fn (k : Int) (v : Value) (l : List Int) (hl : l.length ≤ 1000) (u : View) (h : IsSl u v l.length 1 (intsC l)) : FnP Tryz.prog 116 [.int .i64 k, v] u fun r _ => r = .bool (inB k l) := by
 obtain ⟨ad, cap, rfl, h1⟩ := h
 refine FnP.intro [.tmp 4] Tryz.func116 rfl rfl rfl ?_
 intro w0 D hw0
 refine Zd (Za (ya rfl rfl (Zf (ρ' := [(0, _), (1, _)]) ⟨rfl, rfl, trivial⟩ ?_)))
 refine Zc (Zd (Zd (Za (ya rfl rfl (Zf (ρ' := [(0, _), (1, _), (5, _)]) ⟨rfl, rfl, rfl, trivial⟩ ?_)))))
 refine Zc (Zad ?_)
 refine Zbc (fun m ρ σ u' => ∃ i : Nat, i + m = l.length ∧ VLe u u' ∧ σ = [] ∧ ρ = [(0, .v (.int .i64 k)), (1, .v (.slice ad l.length cap)), (5, .v (.int .i64 i))] ∧ (u = u' ∧ k ∉ l.take i)) (l.length) ?_ ?_
 ·
  refine ⟨[(0, _), (1, _), (5, _)], [], ⟨rfl, rfl, rfl, trivial⟩, trivial, 0, by omega, VLe.refl _, (by first | rfl | simp), (by first | rfl | (simp only [List.cons.injEq, Prod.mk.injEq, SV.v.injEq, Value.int.injEq, true_and, and_true]; omega) | simp), ?_⟩
  exact ⟨rfl, by simp⟩
 ·
  rintro m ρ σ u' ⟨i, hi2, hle2, rfl, rfl, ⟨rfl, hinv⟩⟩
  refine Zd (Zd (Za (ym rfl rfl (ym rfl rfl (Zg (Zaq rfl rfl Tryz.s158 rfl) rfl (Zg (Zbn rfl rfl rfl) rfl (Zf (ρ' := [(0, _), (1, _), (5, _), (9, _)]) ⟨rfl, rfl, rfl, rfl, trivial⟩ ?_)))))))
  refine Zc ?_
  refine Zo rfl (fun hb2 => ?_) (fun hb2 => ?_)
  ·
   have hlt : i < l.length := by have := of_decide_eq_true hb2; omega
   have hcc := cut_intsC (List.getElem?_eq_getElem hlt)
   refine Zr (Zc (Zd (Zad (Zd (Za (ym rfl rfl (ym rfl rfl ?_)))))))
   refine Zg (Zai rfl Tryz.s158 rfl rfl (by assumption) (by first | rfl | omega) (by omega)) rfl (Zg (Zag rfl Tryz.k3 rfl (by assumption) (by omega) (by assumption) (vs := [_]) rfl rfl rfl rfl) rfl (ym rfl rfl (Zg (Zaw rfl rfl rfl) rfl (Zf (ρ' := [(0, _), (1, _), (5, _), (17, _)]) ⟨rfl, rfl, rfl, rfl, trivial⟩ ?_))))
   refine Zc ?_
   refine Zo rfl (fun hb4 => ?_) (fun hb4 => ?_)
   ·
    refine Zd (Za (ya rfl rfl (Zf (ρ' := [(4, _)]) ⟨rfl, trivial⟩ ?_)))
    refine Zc (Zw (Zu (Zj (Zj (Zu (Zj (Zbe (.tmp rfl) ?_)))))))
    have h4 := of_decide_eq_true hb4
    unfold inB
    rw [decide_eq_true]
    rw [← h4]; exact List.getElem_mem hlt
   ·
    refine Zr (Zah (Zc (Za (ym rfl rfl (Zg (Zav rfl rfl rfl (Zs (by omega))) rfl ?_)))))
    refine ya rfl rfl (Zf (ρ' := [(0, _), (1, _), (5, _)]) ⟨rfl, rfl, rfl, trivial⟩ ?_)
    refine Zab ?_
    refine ⟨m - 1, [(0, _), (1, _), (5, _)], [], by omega, ⟨rfl, rfl, rfl, trivial⟩, trivial, i + 1, by omega, hle2, (by first | rfl | simp), (by first | rfl | (simp only [List.cons.injEq, Prod.mk.injEq, SV.v.injEq, Value.int.injEq, true_and, and_true]; omega) | simp), ?_⟩
    have h4 := of_decide_eq_false hb4
    refine ⟨rfl, fun hm => ?_⟩
    rw [List.take_succ_eq_append_getElem hlt] at hm
    rcases List.mem_append.1 hm with hm | hm
    ·
     exact hinv hm
    ·
     exact h4 (List.mem_singleton.1 hm).symm
  ·
   have hge := of_decide_eq_false hb2
   rw [List.take_of_length_le (by omega)] at hinv
   refine Zax ?_
   refine Zq (Zq ?_)
   refine Zaf ?_
   refine Zc (Zd (Za (ya rfl rfl (Zf (ρ' := [(4, _)]) ⟨rfl, trivial⟩ ?_))))
   refine Zc (Zw (Zbe (.tmp rfl) ?_))
   unfold inB; rw [decide_eq_false hinv]
def noA (a : DAttr) : Bool := decide (a.id = []) && decide ((a.classes.length : Int) = 0) && decide ((a.pairs.length : Int) = 0)
theorem noAttr_fn (a : DAttr) (vc vp : Value) (u : View) (h1 : StrS u vc a.classes) (h2 : PrS u vp a.pairs) : FnP Tryz.prog 117 [.agg #[str a.id, vc, vp]] u fun r _ => r = .bool (noA a) := by
 obtain ⟨ad, cap, rfl, h1⟩ := h1
 obtain ⟨ad2, cap2, rfl, h2⟩ := h2
 refine FnP.intro [.tmp 2] Tryz.func117 rfl rfl rfl ?_
 intro w0 D hw0
 refine Zd (Za (Zv rfl rfl ?_))
 refine Zbx trivial rfl (cs := [_, _, _]) rfl rfl rfl rfl ?_
 refine ya rfl rfl (Zf (ρ' := [(1, _)]) ⟨rfl, trivial⟩ ?_)
 refine Zc (Zd (Za (Zg (Zh rfl Tryz.f39' rfl (by decide) rfl) rfl (Zg (Zi rfl Tryz.k9 rfl rfl rfl (vs := [_]) rfl rfl rfl) rfl (Zg (Zba rfl rfl rfl) rfl (ym rfl rfl ?_))))))
 refine Zae 6 rfl (fun hg1_3 => ?_) (fun hg1_3 => ?_)
 ·
  refine Zk rfl rfl (Zg (Zh rfl Tryz.f39' rfl (by decide) rfl) rfl (Zk rfl rfl (Zg (Zi rfl Tryz.k37 rfl rfl rfl (vs := [_]) rfl rfl rfl) rfl (Zk rfl rfl (Zg (Zaq rfl rfl Tryz.s37 rfl) rfl (Zk rfl rfl (Zg (Zaw rfl rfl rfl) rfl ?_)))))))
  refine Zg (Zl rfl rfl rfl) rfl (ym rfl rfl ?_)
  refine Zae 12 rfl (fun hg1_9 => ?_) (fun hg1_9 => ?_)
  ·
   refine Zk rfl rfl (Zg (Zh rfl Tryz.f39' rfl (by decide) rfl) rfl (Zk rfl rfl (Zg (Zi rfl Tryz.k22 rfl rfl rfl (vs := [_]) rfl rfl rfl) rfl (Zk rfl rfl (Zg (Zaq rfl rfl Tryz.s22 rfl) rfl (Zk rfl rfl (Zg (Zaw rfl rfl rfl) rfl ?_)))))))
   refine Zg (Zl rfl rfl rfl) rfl (ya rfl rfl (Zf (ρ' := [(2, _)]) ⟨rfl, trivial⟩ ?_))
   refine Zc (Zw (Zbe (.tmp rfl) ?_))
   unfold noA; simp_all
  ·
   iterate 4 refine Zt rfl rfl rfl rfl ?_
   refine Zg (Zn rfl rfl rfl) rfl (ya rfl rfl (Zf (ρ' := [(2, _)]) ⟨rfl, trivial⟩ ?_))
   refine Zc (Zw (Zbe (.tmp rfl) ?_))
   unfold noA; simp_all
 ·
  iterate 4 refine Zt rfl rfl rfl rfl ?_
  refine Zg (Zn rfl rfl rfl) rfl (ym rfl rfl ?_)
  iterate 4 refine Zt rfl rfl rfl rfl ?_
  refine Zg (Zn rfl rfl rfl) rfl (ya rfl rfl (Zf (ρ' := [(2, _)]) ⟨rfl, trivial⟩ ?_))
  refine Zc (Zw (Zbe (.tmp rfl) ?_))
  unfold noA; simp_all
theorem reference_fn (k : Int) (u : View) : FnP Tryz.prog 153 [.int .i64 k] u fun r _ => ∃ b, r = .bool b := by
 refine FnP.intro [.tmp 2] Tryz.func153 rfl rfl rfl ?_
 intro w0 D hw0
 refine Zd (Za (ya rfl rfl (Zf (ρ' := [(0, _)]) ⟨rfl, trivial⟩ ?_)))
 refine Zc (Zd (Za (ym rfl rfl (Zv rfl rfl ?_))))
 refine Zak trivial Tryz.s158 Tryz.z3 (ps := [(_, _), (_, _), (_, _), (_, _), (_, _)]) rfl (xs := [_, _, _, _, _]) rfl rfl rfl rfl rfl rfl rfl ?_
 refine Zv rfl rfl ?_
 refine Zcg (caps := []) 4 trivial rfl rfl Tryz.c116 rfl ?_
 intro adb capb ub hleb hslb
 refine ⟨_, rfl, FnP.mono (in4_fn k _ [9, 16, 12, 14, 13] (by decide) ub ⟨_, _, rfl, hslb⟩) ?_⟩
 rintro v u1 hle1 rfl
 refine ya rfl rfl (Zf (ρ' := [(2, _)]) ⟨rfl, trivial⟩ ?_)
 refine Zc (Zw (Zbe (.tmp rfl) ?_))
 exact ⟨_, rfl⟩
theorem khas_fn (s b : Bs) (hs : s.length ≤ 10000000) (hb : b.length ≤ 100) (u : View) : FnP Tryz.prog 141 [str s, str b] u fun r _ => ∃ x, r = .bool x := by
 refine FnP.intro [.tmp 4] Tryz.func141 rfl rfl rfl ?_
 intro w0 D hw0
 refine Zd (Za (ya rfl rfl (Zf (ρ' := [(0, _), (1, _)]) ⟨rfl, rfl, trivial⟩ ?_)))
 refine Zc (Zd (Zd (Za (ya rfl rfl (Zf (ρ' := [(0, _), (1, _), (5, _)]) ⟨rfl, rfl, rfl, trivial⟩ ?_)))))
 refine Zc (Zad ?_)
 refine Zbc (fun m ρ σ u' => ∃ i : Nat, i + m = s.length ∧ VLe u u' ∧ σ = [] ∧ ρ = [(0, .v (str s)), (1, .v (str b)), (5, .v (.int .i64 i))] ∧ (u = u')) (s.length) ?_ ?_
 ·
  refine ⟨[(0, _), (1, _), (5, _)], [], ⟨rfl, rfl, rfl, trivial⟩, trivial, 0, by omega, VLe.refl _, (by first | rfl | simp), (by first | rfl | (simp only [List.cons.injEq, Prod.mk.injEq, SV.v.injEq, Value.int.injEq, true_and, and_true]; omega) | simp), ?_⟩
  rfl
 ·
  rintro m ρ σ u' ⟨i, hi2, hle2, rfl, rfl, rfl⟩
  refine Zd (Zd (Za (ym rfl rfl (ym rfl rfl (Zg (Zao rfl rfl Tryz.str9 rfl) rfl (Zg (Zbn rfl rfl rfl) rfl (Zf (ρ' := [(0, _), (1, _), (5, _), (10, _)]) ⟨rfl, rfl, rfl, rfl, trivial⟩ ?_)))))))
  refine Zc ?_
  refine Zo rfl (fun hb2 => ?_) (fun hb2 => ?_)
  ·
   have hlt : i < s.length := by have := of_decide_eq_true hb2; omega
   obtain ⟨c, hc, hc2⟩ := byte_at hlt
   refine Zr (Zc (Zd (Zad (Zd (Za (ya rfl rfl (Zf (ρ' := [(0, _), (1, _), (5, _), (6, _)]) ⟨rfl, rfl, rfl, rfl, trivial⟩ ?_)))))))
   refine Zc (Zad ?_)
   refine Zbc (fun m ρ σ u' => ∃ j : Nat, j + m = b.length ∧ VLe u u' ∧ σ = [] ∧ ρ = [(0, .v (str s)), (1, .v (str b)), (5, .v (.int .i64 i)), (6, .v (.int .i64 j))] ∧ (u = u')) (b.length) ?_ ?_
   ·
    refine ⟨[(0, _), (1, _), (5, _), (6, _)], [], ⟨rfl, rfl, rfl, rfl, trivial⟩, trivial, 0, by omega, VLe.refl _, (by first | rfl | simp), (by first | rfl | (simp only [List.cons.injEq, Prod.mk.injEq, SV.v.injEq, Value.int.injEq, true_and, and_true]; omega) | simp), ?_⟩
    rfl
   ·
    rintro mj ρ σ u' ⟨j, hi5, hle5, rfl, rfl, rfl⟩
    refine Zd (Zd (Za (ym rfl rfl (ym rfl rfl (Zg (Zao rfl rfl Tryz.str9 rfl) rfl (Zg (Zbn rfl rfl rfl) rfl (Zf (ρ' := [(0, _), (1, _), (5, _), (6, _), (16, _)]) ⟨rfl, rfl, rfl, rfl, rfl, trivial⟩ ?_)))))))
    refine Zc ?_
    refine Zo rfl (fun hb5 => ?_) (fun hb5 => ?_)
    ·
     have hlt2 : j < b.length := by have := of_decide_eq_true hb5; omega
     obtain ⟨c2, hc3, hc4⟩ := byte_at hlt2
     refine Zr (Zc (Zd (Zad (Zd ?_))))
     refine Zbk Tryz.mixed rfl [] trivial ?_
     refine Zal 0 rfl (by kernel_rfl) (Zb (Ze (Zb (Zb (Ze (Ze (Zb (Zb (Ze (Zb (Zan))))))))))) (Zap rfl rfl) rfl (Zal 1 rfl (by kernel_rfl) (Zb (Ze (Zb (Zb (Ze (Ze (Zb (Zb (Ze (Zb (Zan))))))))))) (Zap rfl rfl) rfl ?_)
     refine Zal 2 rfl (by kernel_rfl) (Zb (Ze (Zb (Zb (Ze (Ze (Zb (Zb (Ze (Zb (Zan))))))))))) (Zat rfl Tryz.str9 rfl rfl (j := i) rfl hc) rfl ?_
     refine Zal 3 rfl (by kernel_rfl) (Zb (Ze (Zb (Zb (Ze (Ze (Zb (Zb (Ze (Zb (Zan))))))))))) (Zap rfl rfl) rfl (Zal 4 rfl (by kernel_rfl) (Zb (Ze (Zb (Zb (Ze (Ze (Zb (Zb (Ze (Zb (Zan))))))))))) (Zap rfl rfl) rfl ?_)
     refine Zal 5 rfl (by kernel_rfl) (Zb (Ze (Zb (Zb (Ze (Ze (Zb (Zb (Ze (Zb (Zan))))))))))) (Zat rfl Tryz.str9 rfl rfl (j := j) rfl hc3) rfl ?_
     refine Zal 6 rfl (by kernel_rfl) (Zb (Ze (Zb (Zb (Ze (Ze (Zb (Zb (Ze (Zb (Zan))))))))))) (Zaw rfl rfl rfl) rfl ?_
     refine Zbl (by kernel_rfl) (ρ' := [(0, _), (1, _), (5, _), (6, _), (25, _)]) ⟨rfl, rfl, rfl, rfl, rfl, trivial⟩ ?_
     refine Zc ?_
     refine Zo rfl (fun hb7 => ?_) (fun hb7 => ?_)
     ·
      refine Zd (Za (ya rfl rfl (Zf (ρ' := [(4, _)]) ⟨rfl, trivial⟩ ?_)))
      refine Zc (Zw (Zu (Zj (Zj (Zu (Zu (Zj ?_)))))))
      refine Zj (Zu (Zj (Zbe (.tmp rfl) ?_)))
      exact ⟨_, rfl⟩
     ·
      refine Zr (Zah (Zc (Za (ym rfl rfl (Zg (Zav rfl rfl rfl (Zs (by omega))) rfl ?_)))))
      refine ya rfl rfl (Zf (ρ' := [(0, _), (1, _), (5, _), (6, _)]) ⟨rfl, rfl, rfl, rfl, trivial⟩ ?_)
      refine Zab ?_
      refine ⟨mj - 1, [(0, _), (1, _), (5, _), (6, _)], [], by omega, ⟨rfl, rfl, rfl, rfl, trivial⟩, trivial, j + 1, by omega, hle5, (by first | rfl | simp), (by first | rfl | (simp only [List.cons.injEq, Prod.mk.injEq, SV.v.injEq, Value.int.injEq, true_and, and_true]; omega) | simp), ?_⟩
      rfl
    ·
     skip
     refine Zax ?_
     refine Zq (Zq ?_)
     refine Zaf ?_
     refine Zah (Zc (Za (ym rfl rfl (Zg (Zav rfl rfl rfl (Zs (by omega))) rfl ?_))))
     refine ya rfl rfl (Zf (ρ' := [(0, _), (1, _), (5, _)]) ⟨rfl, rfl, rfl, trivial⟩ ?_)
     refine Zab ?_
     refine ⟨m - 1, [(0, _), (1, _), (5, _)], [], by omega, ⟨rfl, rfl, rfl, trivial⟩, trivial, i + 1, by omega, hle2, (by first | rfl | simp), (by first | rfl | (simp only [List.cons.injEq, Prod.mk.injEq, SV.v.injEq, Value.int.injEq, true_and, and_true]; omega) | simp), ?_⟩
     rfl
  ·
   skip
   refine Zax ?_
   refine Zq (Zq ?_)
   refine Zaf ?_
   refine Zc (Zd (Za (ya rfl rfl (Zf (ρ' := [(4, _)]) ⟨rfl, trivial⟩ ?_))))
   refine Zc (Zw (Zbe (.tmp rfl) ?_))
   exact ⟨_, rfl⟩
theorem body_fn (s : Bs) (hs : s.length ≤ 10000000) (u : View) : FnP Tryz.prog 119 [str s] u fun r _ => ∃ x, r = .bool x := by
 refine FnP.intro [.tmp 2] Tryz.func119 rfl rfl rfl ?_
 intro w0 D hw0
 refine Zd (Za (ya rfl rfl (Zf (ρ' := [(0, _)]) ⟨rfl, trivial⟩ ?_)))
 refine Zc (Zd (Za (ym rfl rfl (Zg (Zba rfl rfl rfl) rfl (ym rfl rfl ?_)))))
 refine Zae 5 rfl (fun hg1_2 => ?_) (fun hg1_2 => ?_)
 ·
  iterate 3 refine Zt rfl rfl rfl rfl ?_
  iterate 6 refine Zbg rfl rfl rfl ?_
  refine Zt rfl rfl rfl rfl (Zg (Zl rfl rfl rfl) rfl (ya rfl rfl (Zf (ρ' := [(2, _)]) ⟨rfl, trivial⟩ ?_)))
  refine Zc (Zw (Zbe (.tmp rfl) ?_))
  exact ⟨_, rfl⟩
 ·
  refine Zk rfl rfl (ym rfl rfl (Zk rfl rfl (Zv rfl rfl ?_)))
  refine Zaa (caps := []) trivial rfl rfl Tryz.c73 rfl (FnP.mono (kvalid_fn s (by omega) u) ?_)
  rintro v u1 hle1 ⟨b, rfl⟩
  refine Zk rfl rfl (ym rfl rfl ?_)
  refine Zae 8 rfl (fun hg1_5 => ?_) (fun hg1_5 => ?_)
  ·
   refine Zk rfl rfl (ym rfl rfl (Zk rfl rfl (ym rfl rfl (Zk rfl rfl (Zg (Zao rfl rfl Tryz.str9 rfl) rfl ?_)))))
   have hne : 0 < s.length := by
    rcases Nat.eq_zero_or_pos s.length with h | h
    ·
     exact absurd (List.eq_nil_of_length_eq_zero h) (of_decide_eq_false hg1_2)
    ·
     exact h
   obtain ⟨c, hc, hc2⟩ := byte_at (s := s) (i := s.length - 1) (by omega)
   refine Zk rfl rfl (Zg (y_sub rfl rfl rfl (Zs (by omega))) rfl ?_)
   refine Zk rfl rfl (Zg (Zat rfl Tryz.str9 rfl rfl (j := s.length - 1) (by omega) hc) rfl (Zk rfl rfl (Zg (Zaw rfl rfl rfl) rfl (Zk rfl rfl (Zg (Zl rfl rfl rfl) rfl (Zg (Zn rfl rfl rfl) rfl (ya rfl rfl (Zf (ρ' := [(2, _)]) ⟨rfl, trivial⟩ ?_))))))))
   refine Zc (Zw (Zbe (.tmp rfl) ?_))
   exact ⟨_, rfl⟩
  ·
   iterate 6 refine Zt rfl rfl rfl rfl ?_
   refine Zk rfl rfl (Zg (Zn rfl rfl rfl) rfl (Zg (Zn rfl rfl rfl) rfl (ya rfl rfl (Zf (ρ' := [(2, _)]) ⟨rfl, trivial⟩ ?_))))
   refine Zc (Zw (Zbe (.tmp rfl) ?_))
   exact ⟨_, rfl⟩
theorem trimmed4_fn (s : Bs) (hs : s.length ≤ 10000000) (u : View) : FnP Tryz.prog 36 [str s] u fun r _ => ∃ x, r = .bool x := by
 refine FnP.intro [.tmp 2] Tryz.func36 rfl rfl rfl ?_
 intro w0 D hw0
 refine Zd (Za (ya rfl rfl (Zf (ρ' := [(0, _)]) ⟨rfl, trivial⟩ ?_)))
 refine Zc (Zd (Za (ym rfl rfl (Zg (Zba rfl rfl rfl) rfl (ym rfl rfl ?_)))))
 refine Zae 5 rfl (fun hg1_2 => ?_) (fun hg1_2 => ?_)
 ·
  iterate 4 refine Zt rfl rfl rfl rfl ?_
  iterate 6 refine Zbg rfl rfl rfl ?_
  refine Zt rfl rfl rfl rfl (Zg (Zl rfl rfl rfl) rfl (ya rfl rfl (Zf (ρ' := [(2, _)]) ⟨rfl, trivial⟩ ?_)))
  refine Zc (Zw (Zbe (.tmp rfl) ?_))
  exact ⟨_, rfl⟩
 ·
  refine Zk rfl rfl (ym rfl rfl ?_)
  have hne : 0 < s.length := by
   rcases Nat.eq_zero_or_pos s.length with h | h
   ·
    exact absurd (List.eq_nil_of_length_eq_zero h) (of_decide_eq_false hg1_2)
   ·
    exact h
  obtain ⟨c, hc, hc2⟩ := byte_at (s := s) (i := s.length - 1) (by omega)
  obtain ⟨c0, hc0, hc02⟩ := byte_at (s := s) (i := 0) (by omega)
  refine Zk rfl rfl (Zg (Zat rfl Tryz.str9 rfl rfl (j := 0) rfl hc0) rfl (Zk rfl rfl (Zg (Zck rfl rfl rfl) rfl (Zk rfl rfl (ym rfl rfl ?_)))))
  refine Zae 9 rfl (fun hg1_6 => ?_) (fun hg1_6 => ?_)
  ·
   refine Zk rfl rfl (ym rfl rfl (Zk rfl rfl (ym rfl rfl (Zk rfl rfl (Zg (Zao rfl rfl Tryz.str9 rfl) rfl (Zk rfl rfl (Zg (y_sub rfl rfl rfl (Zs (by omega))) rfl ?_)))))))
   refine Zk rfl rfl (Zg (Zat rfl Tryz.str9 rfl rfl (j := s.length - 1) (by omega) hc) rfl (Zk rfl rfl (Zg (Zck rfl rfl rfl) rfl (Zk rfl rfl (Zg (Zl rfl rfl rfl) rfl (Zg (Zn rfl rfl rfl) rfl (ya rfl rfl (Zf (ρ' := [(2, _)]) ⟨rfl, trivial⟩ ?_))))))))
   refine Zc (Zw (Zbe (.tmp rfl) ?_))
   exact ⟨_, rfl⟩
  ·
   iterate 6 refine Zt rfl rfl rfl rfl ?_
   refine Zk rfl rfl (Zg (Zn rfl rfl rfl) rfl (Zg (Zn rfl rfl rfl) rfl (ya rfl rfl (Zf (ρ' := [(2, _)]) ⟨rfl, trivial⟩ ?_))))
   refine Zc (Zw (Zbe (.tmp rfl) ?_))
   exact ⟨_, rfl⟩
set_option maxHeartbeats 1000000 in
theorem parse_fn (s : Bs) (i : Nat) (hi : i ≤ s.length) (hs : s.length ≤ 1000000) (u : View) : FnP Tryz.prog 155 [str s, .int .i64 i] u fun r _ => ∃ (id : Bs) (vc vp : Value) (t : Nat) (e : Int), r = .tuple #[.agg #[str id, vc, vp], .int .i64 t, .int .i64 e] ∧ Value.oneCell' vc = true ∧ Value.oneCell' vp = true ∧ t ≤ s.length + 1 := by
 refine FnP.intro [.cell 4 39, .tmp 5, .tmp 6] Tryz.func155 rfl rfl rfl ?_
 intro w0 D hw0
 refine Zd (Za (Zv rfl rfl ?_))
 refine Zas trivial Tryz.z39 rfl rfl rfl ?_
 refine ya rfl rfl (ya rfl rfl (Zf (ρ' := [(0, _), (1, _), (4, _)]) ⟨rfl, rfl, rfl, trivial⟩ ?_))
 refine Zc (Zd (Zd (Za ?_)))
 refine Zbh 14 27 (fun b => b = false → i < s.length) (ρk := [(0, _), (1, _), (4, _)]) ⟨rfl, rfl, rfl, trivial⟩ ?_ fun mb1_13 hm1_13 => ?_
 ·
  refine ym rfl rfl (Zg (Zbn rfl rfl rfl) rfl (ym rfl rfl ?_))
  refine Zae 16 rfl (fun hg1_2 => ?_) (fun hg1_2 => ?_)
  ·
   iterate 4 refine Zt rfl rfl rfl rfl ?_
   refine Zg (Zl rfl rfl rfl) rfl (ym rfl rfl ?_)
   iterate 4 refine Zt rfl rfl rfl rfl ?_
   refine Zg (Zl rfl rfl rfl) rfl ?_
   exact Zac rfl ⟨rfl, rfl, rfl, trivial⟩ (by (first | exact fun _ => hlt | exact fun h => absurd h (by decide)))
  ·
   refine Zk rfl rfl (ym rfl rfl (Zk rfl rfl (ym rfl rfl (Zk rfl rfl (Zg (Zao rfl rfl Tryz.str9 rfl) rfl (Zk rfl rfl (Zg (Zci rfl rfl rfl) rfl ?_)))))))
   refine Zg (Zn rfl rfl rfl) rfl (ym rfl rfl ?_)
   refine Zae 22 rfl (fun hg1_8 => ?_) (fun hg1_8 => ?_)
   ·
    iterate 4 refine Zt rfl rfl rfl rfl ?_
    refine Zg (Zl rfl rfl rfl) rfl ?_
    exact Zac rfl ⟨rfl, rfl, rfl, trivial⟩ (by (first | exact fun _ => hlt | exact fun h => absurd h (by decide)))
   ·
    refine Zk rfl rfl (ym rfl rfl ?_)
    have hlt : i < s.length := by simp only [decide_eq_true_eq, decide_eq_false_iff_not] at *; omega
    obtain ⟨c, hc, hc2⟩ := byte_at hlt
    refine Zk rfl rfl (ym rfl rfl (Zk rfl rfl (Zg (Zat rfl Tryz.str9 rfl rfl (j := i) rfl hc) rfl (Zk rfl rfl (Zg (Zck rfl rfl rfl) rfl (Zg (Zn rfl rfl rfl) rfl ?_))))))
    exact Zac rfl ⟨rfl, rfl, rfl, trivial⟩ (by (first | exact fun _ => hlt | exact fun h => absurd h (by decide)))
 refine Zf (ρ' := [(0, _), (1, _), (4, _), (27, _)]) ⟨rfl, rfl, rfl, rfl, trivial⟩ ?_
 refine Zc ?_
 refine Zo rfl (fun hb1 => ?_) (fun hb1 => ?_)
 ·
  skip
  refine Zd (Za (Zg (Zbf rfl Tryz.f39' Tryz.z39 (ps := []) rfl (vs := [_, _, _]) rfl) rfl (Zv rfl rfl ?_)))
  refine Zm trivial rfl Tryz.k39 rfl rfl rfl (vs := [_, _, _]) rfl rfl (by first | rfl | assumption | simp [Value.oneCell', str]) (Nat.le_of_ble_eq_true rfl) rfl ?_
  refine ya rfl rfl (ya rfl rfl (Zf (ρ' := [(4, _), (5, _), (6, _)]) ⟨rfl, rfl, rfl, trivial⟩ ?_))
  refine Zc (Zw (Zj ?_))
  refine fin3 (.cell rfl rfl Tryz.k39 (cs := _) (vs := [_, _, _]) rfl rfl rfl) (.tmp rfl) (.tmp rfl) ?_
  first | exact ⟨_, _, _, 0, _, rfl, rfl, rfl, Nat.zero_le _⟩ | exact ⟨_, vc, vp, p + q + 1, _, rfl, o1, o2, by omega⟩
 ·
  have hlt := hm1_13 hb1
  refine Zr (Zc (Zd (Za (Zv rfl rfl ?_))))
  refine Zas trivial Tryz.z39 rfl rfl rfl ?_
  refine rl_nilW 600 9 1 rfl rfl ?_
  refine rl_nilW 601 56 2 rfl rfl ?_
  refine Zf (ρ' := [(0, _), (1, _), (4, _), (7, _)]) ⟨rfl, rfl, rfl, rfl, trivial⟩ ?_
  refine Zc (Zd (Za (ym rfl rfl (Zg (Zav rfl rfl rfl (Zs (by omega))) rfl ?_))))
  refine ya rfl rfl (Zf (ρ' := [(0, _), (4, _), (7, _), (8, _)]) ⟨rfl, rfl, rfl, rfl, trivial⟩ ?_)
  refine Zc (Zd (Zd (Za (ya rfl rfl (Zf (ρ' := [(0, _), (4, _), (7, _), (8, _), (9, _)]) ⟨rfl, rfl, rfl, rfl, rfl, trivial⟩ ?_)))))
  refine Zc (Zad ?_)
  refine Zbc (fun m ρ σ u' => ∃ n : Nat, n + m = s.length + 1 ∧ VLe u u' ∧ ∃ (p : Nat) (id : Bs) (vc vp : Value) (cs : List Bs) (ps : List (Bs × Bs)), σ = [(4, (none, .box [str [], .slice none 0 0, .slice none 0 0])), (7, (none, .box [str id, vc, vp])), (600, clsRow vc cs), (601, prsRow vp ps)] ∧ ρ = [(0, .v (str s)), (4, .p 4 0), (7, .p 7 0), (8, .v (.int .i64 (p : Nat))), (9, .v (.int .i64 n))] ∧ (p ≤ s.length ∧ Value.oneCell' vc = true ∧ Value.oneCell' vp = true ∧ cs.length ≤ 40 ∧ ps.length ≤ 40)) (s.length + 1) ?_ ?_
  ·
   refine ⟨[(0, _), (4, _), (7, _), (8, _), (9, _)], [(4, _), (7, _), (600, _), (601, _)], ⟨rfl, rfl, rfl, rfl, rfl, trivial⟩, ⟨rfl, rfl, rfl, rfl, trivial⟩, 0, by omega, VLe.refl _, i + 1, [], .slice none 0 0, .slice none 0 0, [], [], rfl, rfl, ?_⟩
   exact ⟨hlt, rfl, rfl, by simp, by simp⟩
  ·
   rintro mn ρ σ uo ⟨n, hi6, hle6, p, id, vc, vp, cs, ps, rfl, rfl, hp, o1, o2, hcs, hps⟩
   refine Zd (Zd (Za (ym rfl rfl (ym rfl rfl (Zg (Zao rfl rfl Tryz.str9 rfl) rfl (Zg (y_leq rfl rfl rfl) rfl (Zf (ρ' := [(0, _), (4, _), (7, _), (8, _), (9, _), (34, _)]) ⟨rfl, rfl, rfl, rfl, rfl, rfl, trivial⟩ ?_)))))))
   refine Zc ?_
   refine Zo rfl (fun hb6 => ?_) (fun hb6 => ?_)
   ·
    have hn6 := of_decide_eq_true hb6
    refine Zr (Zc (Zd (Zad (Zd (Za (ym rfl rfl (ya rfl rfl (Zf (ρ' := [(0, _), (4, _), (7, _), (8, _), (9, _), (10, _)]) ⟨rfl, rfl, rfl, rfl, rfl, rfl, trivial⟩ ?_))))))))
    refine Zc (Zd (Zad ?_))
    refine Zbc (fun m ρ σ u' => ∃ q : Nat, q + m = s.length - p ∧ VLe uo u' ∧ σ = [(4, (none, .box [str [], .slice none 0 0, .slice none 0 0])), (7, (none, .box [str id, vc, vp])), (600, clsRow vc cs), (601, prsRow vp ps)] ∧ ρ = [(0, .v (str s)), (4, .p 4 0), (7, .p 7 0), (8, .v (.int .i64 (p : Nat))), (9, .v (.int .i64 n)), (10, .v (.int .i64 ((p + q : Nat) : Int)))] ∧ (uo = u')) (s.length - p) ?_ ?_
    ·
     refine ⟨[(0, _), (4, _), (7, _), (8, _), (9, _), (10, _)], [(4, _), (7, _), (600, _), (601, _)], ⟨rfl, rfl, rfl, rfl, rfl, rfl, trivial⟩, ⟨rfl, rfl, rfl, rfl, trivial⟩, 0, by omega, VLe.refl _, rfl, rfl, ?_⟩
     rfl
    ·
     rintro mq ρ σ u' ⟨q, hi9, hle9, rfl, rfl, rfl⟩
     refine Zd (Zd (Za ?_))
     refine Zbh 10 47 (fun b => b = true → p + q < s.length) (ρk := [(0, _), (4, _), (7, _), (8, _), (9, _), (10, _)]) ⟨rfl, rfl, rfl, rfl, rfl, rfl, trivial⟩ ?_ fun mb9_9 hm9_9 => ?_
     ·
      refine ym rfl rfl (ym rfl rfl (Zg (Zao rfl rfl Tryz.str9 rfl) rfl (Zg (Zbn rfl rfl rfl) rfl (ym rfl rfl ?_))))
      refine Zae 42 rfl (fun hg9_4 => ?_) (fun hg9_4 => ?_)
      ·
       refine Zk rfl rfl (ym rfl rfl ?_)
       have hlt9 : p + q < s.length := by have := of_decide_eq_true hg9_4; omega
       obtain ⟨c9, hc9, _⟩ := byte_at hlt9
       refine Zk rfl rfl (ym rfl rfl (Zk rfl rfl (Zg (Zat rfl Tryz.str9 rfl rfl (j := p + q) rfl hc9) rfl (Zk rfl rfl (Zg (Zaw rfl rfl rfl) rfl (Zg (Zl rfl rfl rfl) rfl ?_))))))
       exact Zac rfl ⟨rfl, rfl, rfl, rfl, rfl, rfl, trivial⟩ (by (first | exact fun _ => hlt9 | exact fun h => absurd h (by decide)))
      ·
       iterate 4 refine Zt rfl rfl rfl rfl ?_
       refine Zg (Zn rfl rfl rfl) rfl ?_
       exact Zac rfl ⟨rfl, rfl, rfl, rfl, rfl, rfl, trivial⟩ (by (first | exact fun _ => hlt9 | exact fun h => absurd h (by decide)))
     refine Zf (ρ' := [(0, _), (4, _), (7, _), (8, _), (9, _), (10, _), (47, _)]) ⟨rfl, rfl, rfl, rfl, rfl, rfl, rfl, trivial⟩ ?_
     refine Zc ?_
     refine Zo rfl (fun hb9 => ?_) (fun hb9 => ?_)
     ·
      have hlt9 := hm9_9 hb9
      refine Zr (Zc (Zad (Za (ym rfl rfl (Zg (Zav rfl rfl rfl (Zs (by omega))) rfl ?_)))))
      refine ya rfl rfl (Zf (ρ' := [(0, _), (4, _), (7, _), (8, _), (9, _), (10, _)]) ⟨rfl, rfl, rfl, rfl, rfl, rfl, trivial⟩ ?_)
      refine Zah (Zab ?_)
      refine ⟨mq - 1, [(0, _), (4, _), (7, _), (8, _), (9, _), (10, _)], [(4, _), (7, _), (600, _), (601, _)], by omega, ⟨rfl, rfl, rfl, rfl, rfl, rfl, trivial⟩, ⟨rfl, rfl, rfl, rfl, trivial⟩, q + 1, by omega, hle9, (by first | rfl | simp), (by first | rfl | (simp only [List.cons.injEq, Prod.mk.injEq, SV.v.injEq, Value.int.injEq, true_and, and_true]; omega) | simp), ?_⟩
      rfl
     ·
      skip
      refine Zax ?_
      refine Zq (Zq ?_)
      refine Zaf ?_
      refine Zc (Zd (Zd (Za ?_)))
      refine Zbh 10 59 (fun b => b = true → p + q < s.length) (ρk := [(0, _), (4, _), (7, _), (8, _), (9, _), (10, _)]) ⟨rfl, rfl, rfl, rfl, rfl, rfl, trivial⟩ ?_ fun mb11_9 hm11_9 => ?_
      ·
       refine ym rfl rfl (ym rfl rfl (Zg (Zao rfl rfl Tryz.str9 rfl) rfl (Zg (Zbn rfl rfl rfl) rfl (ym rfl rfl ?_))))
       refine Zae 54 rfl (fun hg11_4 => ?_) (fun hg11_4 => ?_)
       ·
        refine Zk rfl rfl (ym rfl rfl ?_)
        have hlt11 : p + q < s.length := by have := of_decide_eq_true hg11_4; omega
        obtain ⟨c11, hc11, _⟩ := byte_at hlt11
        refine Zk rfl rfl (ym rfl rfl (Zk rfl rfl (Zg (Zat rfl Tryz.str9 rfl rfl (j := p + q) rfl hc11) rfl (Zk rfl rfl (Zg (Zaw rfl rfl rfl) rfl (Zg (Zl rfl rfl rfl) rfl ?_))))))
        exact Zac rfl ⟨rfl, rfl, rfl, rfl, rfl, rfl, trivial⟩ (by (first | exact fun _ => hlt11 | exact fun h => absurd h (by decide)))
       ·
        iterate 4 refine Zt rfl rfl rfl rfl ?_
        refine Zg (Zn rfl rfl rfl) rfl ?_
        exact Zac rfl ⟨rfl, rfl, rfl, rfl, rfl, rfl, trivial⟩ (by (first | exact fun _ => hlt11 | exact fun h => absurd h (by decide)))
      refine Zf (ρ' := [(0, _), (4, _), (7, _), (8, _), (9, _), (10, _), (59, _)]) ⟨rfl, rfl, rfl, rfl, rfl, rfl, rfl, trivial⟩ ?_
      refine Zc ?_
      refine Zo rfl (fun hb11 => ?_) (fun hb11 => ?_)
      ·
       have hlt11 := hm11_9 hb11
       refine Zd (Za (Zg (Zi rfl Tryz.k39 rfl rfl rfl (vs := [_, _, _]) rfl rfl rfl) rfl (ym rfl rfl (Zg (Zav rfl rfl rfl (Zs (by omega))) rfl ?_))))
       refine Zv rfl rfl ?_
       refine Zm trivial rfl Tryz.k39 rfl rfl rfl (vs := [_, _, _]) rfl rfl (by simp only [List.all_cons, List.all_nil, o1, o2]; rfl) (Nat.le_of_ble_eq_true rfl) rfl ?_
       refine ya rfl rfl (ya rfl rfl (Zf (ρ' := [(4, _), (5, _), (6, _)]) ⟨rfl, rfl, rfl, trivial⟩ ?_))
       refine Zc (Zw (Zj (Zu (Zj (Zj (Zu (Zj ?_)))))))
       refine fin3 (.cell rfl rfl Tryz.k39 (cs := _) (vs := [_, _, _]) rfl rfl rfl) (.tmp rfl) (.tmp rfl) ?_
       first | exact ⟨_, _, _, 0, _, rfl, rfl, rfl, Nat.zero_le _⟩ | exact ⟨_, vc, vp, p + q + 1, _, rfl, o1, o2, by omega⟩
      ·
       skip
       refine Zr (Zc (Zd (Zd (Za ?_))))
       refine Zbh 13 75 (fun b => b = false → p + q < s.length) (ρk := [(0, _), (4, _), (7, _), (9, _), (10, _)]) ⟨rfl, rfl, rfl, rfl, rfl, trivial⟩ ?_ fun mb13_12 hm13_12 => ?_
       ·
        refine ym rfl rfl (ym rfl rfl (Zg (Zao rfl rfl Tryz.str9 rfl) rfl (Zg (Zci rfl rfl rfl) rfl (ym rfl rfl ?_))))
        refine Zae 67 rfl (fun hg13_4 => ?_) (fun hg13_4 => ?_)
        ·
         iterate 3 refine Zt rfl rfl rfl rfl ?_
         iterate 3 refine Zbg rfl rfl rfl ?_
         refine Zt rfl rfl rfl rfl (Zg (Zl rfl rfl rfl) rfl ?_)
         exact Zac rfl ⟨rfl, rfl, rfl, rfl, rfl, trivial⟩ (by (first | exact fun h => absurd h (by decide) | exact fun _ => (by have := of_decide_eq_false hg13_4; omega)))
        ·
         refine Zk rfl rfl (ym rfl rfl (Zk rfl rfl (Zg (Zcn rfl rfl rfl) rfl (Zk rfl rfl (ym rfl rfl ?_)))))
         refine Zae 70 rfl (fun hg13_7 => ?_) (fun hg13_7 => ?_)
         ·
          refine Zk rfl rfl (ym rfl rfl (Zk rfl rfl (ym rfl rfl (Zk rfl rfl (Zg (Zaw rfl rfl rfl) rfl (Zk rfl rfl (Zg (Zl rfl rfl rfl) rfl ?_)))))))
          refine Zg (Zn rfl rfl rfl) rfl ?_
          exact Zac rfl ⟨rfl, rfl, rfl, rfl, rfl, trivial⟩ (by (first | exact fun h => absurd h (by decide) | exact fun _ => (by have := of_decide_eq_false hg13_4; omega)))
         ·
          iterate 3 refine Zt rfl rfl rfl rfl ?_
          refine Zk rfl rfl (Zg (Zn rfl rfl rfl) rfl (Zg (Zn rfl rfl rfl) rfl ?_))
          exact Zac rfl ⟨rfl, rfl, rfl, rfl, rfl, trivial⟩ (by (first | exact fun h => absurd h (by decide) | exact fun _ => (by have := of_decide_eq_false hg13_4; omega)))
       refine Zf (ρ' := [(0, _), (4, _), (7, _), (9, _), (10, _), (75, _)]) ⟨rfl, rfl, rfl, rfl, rfl, rfl, trivial⟩ ?_
       refine Zc ?_
       refine Zo rfl (fun hb13 => ?_) (fun hb13 => ?_)
       ·
        refine Zd (Za (Zg (Zbf rfl Tryz.f39' Tryz.z39 (ps := []) rfl (vs := [_, _, _]) rfl) rfl (Zv rfl rfl ?_)))
        refine Zm trivial rfl Tryz.k39 rfl rfl rfl (vs := [_, _, _]) rfl rfl (by first | rfl | assumption | simp [Value.oneCell', str]) (Nat.le_of_ble_eq_true rfl) rfl ?_
        refine ya rfl rfl (ya rfl rfl (Zf (ρ' := [(4, _), (5, _), (6, _)]) ⟨rfl, rfl, rfl, trivial⟩ ?_))
        refine Zc (Zw (Zj (Zu (Zj (Zj (Zu (Zj ?_)))))))
        refine fin3 (.cell rfl rfl Tryz.k39 (cs := _) (vs := [_, _, _]) rfl rfl rfl) (.tmp rfl) (.tmp rfl) ?_
        first | exact ⟨_, _, _, 0, _, rfl, rfl, rfl, Nat.zero_le _⟩ | exact ⟨_, vc, vp, p + q + 1, _, rfl, o1, o2, by omega⟩
       ·
        refine Zr (Zc (Zd (Za ?_)))
        have hlt15 : p + q < s.length := hm13_12 hb13
        refine Zg (Zi rfl Tryz.k39 rfl rfl rfl (vs := [_, _, _]) rfl rfl rfl) rfl (ym rfl rfl (ym rfl rfl (Zv rfl rfl ?_)))
        refine Zaj (caps := []) (ρ' := [(0, _), (4, _), (7, _), (9, _)]) [600, 601] [] trivial rfl rfl rfl Tryz.c163 rfl rfl ⟨rfl, rfl, rfl, rfl, trivial⟩ rfl rfl rfl (FnO.mono (item_fn id s (p + q) hlt15 hs vc vp cs ps hcs hps o1 o2 uo) ?_)
        rintro v uI l1 hleI ⟨id2, vc2, vp2, cs2, ps2, t2, e2, rfl, rfl, o3, o4, hcs2, hps2, ht2⟩ -
        refine ⟨⟨fun _ h => h, fun _ h => h, trivial⟩, ?_⟩
        refine ym rfl rfl (Zg (Zbj rfl rfl rfl) rfl (Zg (Zbj rfl rfl rfl) rfl (Zg (Zbj rfl rfl rfl) rfl (Zv rfl rfl ?_))))
        refine Zas trivial Tryz.z39 rfl rfl rfl ?_
        refine Zv rfl rfl ?_
        refine Zm trivial rfl Tryz.k39 rfl rfl rfl (vs := [_, _, _]) rfl rfl (by simp only [List.all_cons, List.all_nil, o3, o4]; rfl) (Nat.le_of_ble_eq_true rfl) rfl ?_
        refine ya rfl rfl (ya rfl rfl (Zf (ρ' := [(0, _), (4, _), (7, _), (9, _), (11, _), (12, _), (13, _)]) ⟨rfl, rfl, rfl, rfl, rfl, rfl, rfl, trivial⟩ ?_))
        refine Zc (Zd (Zd (Za (ym rfl rfl (Zg (Zck rfl rfl rfl) rfl (Zf (ρ' := [(0, _), (4, _), (7, _), (9, _), (11, _), (12, _), (13, _), (86, _)]) ⟨rfl, rfl, rfl, rfl, rfl, rfl, rfl, rfl, trivial⟩ ?_))))))
        refine Zc ?_
        refine Zo rfl (fun hb16 => ?_) (fun hb16 => ?_)
        ·
         refine Zd (Za (Zg (Zbf rfl Tryz.f39' Tryz.z39 (ps := []) rfl (vs := [_, _, _]) rfl) rfl (ym rfl rfl (Zv rfl rfl ?_))))
         refine Zm trivial rfl Tryz.k39 rfl rfl rfl (vs := [_, _, _]) rfl rfl (by first | rfl | assumption | simp [Value.oneCell', str]) (Nat.le_of_ble_eq_true rfl) rfl ?_
         refine ya rfl rfl (ya rfl rfl (Zf (ρ' := [(4, _), (5, _), (6, _)]) ⟨rfl, rfl, rfl, trivial⟩ ?_))
         refine Zc (Zw (Zj (Zu (Zj (Zj (Zu (Zj ?_)))))))
         refine fin3 (.cell rfl rfl Tryz.k39 (cs := _) (vs := [_, _, _]) rfl rfl rfl) (.tmp rfl) (.tmp rfl) ?_
         first | exact ⟨_, _, _, 0, _, rfl, rfl, rfl, Nat.zero_le _⟩ | exact ⟨_, vc, vp, p + q + 1, _, rfl, o1, o2, by omega⟩
        ·
         refine Zr (Zc (Zd (Za (Zg (Zi rfl Tryz.k39 rfl rfl rfl (vs := [_, _, _]) rfl rfl rfl) rfl (Zv rfl rfl ?_)))))
         refine Zm trivial rfl Tryz.k39 rfl rfl rfl (vs := [_, _, _]) rfl rfl (by simp only [List.all_cons, List.all_nil, o3, o4]; rfl) (Nat.le_of_ble_eq_true rfl) rfl ?_
         refine Zf (ρ' := [(0, _), (4, _), (7, _), (9, _), (12, _)]) ⟨rfl, rfl, rfl, rfl, rfl, trivial⟩ ?_
         refine Zc (Za (ym rfl rfl (ya rfl rfl (Zf (ρ' := [(0, _), (4, _), (7, _), (8, _), (9, _)]) ⟨rfl, rfl, rfl, rfl, rfl, trivial⟩ ?_))))
         refine Zah (Zc (Za (ym rfl rfl (Zg (Zav rfl rfl rfl (Zs (by omega))) rfl ?_))))
         refine ya rfl rfl (Zf (ρ' := [(0, _), (4, _), (7, _), (8, _), (9, _)]) ⟨rfl, rfl, rfl, rfl, rfl, trivial⟩ ?_)
         refine Zab ?_
         refine ⟨mn - 1, [(0, _), (4, _), (7, _), (8, _), (9, _)], [(4, _), (7, _), (600, _), (601, _)], by omega, ⟨rfl, rfl, rfl, rfl, rfl, trivial⟩, ⟨rfl, rfl, rfl, rfl, trivial⟩, n + 1, by omega, (hle6.trans hleI), t2, id2, vc2, vp2, cs2, ps2, rfl, rfl, ?_⟩
         exact ⟨ht2, o3, o4, hcs2, hps2⟩
   ·
    skip
    refine Zax ?_
    refine Zq (Zq ?_)
    refine Zaf ?_
    refine Zc (Zd (Za (Zg (Zbf rfl Tryz.f39' Tryz.z39 (ps := []) rfl (vs := [_, _, _]) rfl) rfl (Zv rfl rfl ?_))))
    refine Zm trivial rfl Tryz.k39 rfl rfl rfl (vs := [_, _, _]) rfl rfl (by first | rfl | assumption | simp [Value.oneCell', str]) (Nat.le_of_ble_eq_true rfl) rfl ?_
    refine ya rfl rfl (ya rfl rfl (Zf (ρ' := [(4, _), (5, _), (6, _)]) ⟨rfl, rfl, rfl, trivial⟩ ?_))
    refine Zc (Zw ?_)
    refine fin3 (.cell rfl rfl Tryz.k39 (cs := _) (vs := [_, _, _]) rfl rfl rfl) (.tmp rfl) (.tmp rfl) ?_
    first | exact ⟨_, _, _, 0, _, rfl, rfl, rfl, Nat.zero_le _⟩ | exact ⟨_, vc, vp, p + q + 1, _, rfl, o1, o2, by omega⟩
theorem ending_fn (s : Bs) (hs : s.length ≤ 1000000) (u : View) : FnP Tryz.prog 137 [str s] u fun r _ => ∃ x, r = .bool x := by
 refine FnP.intro [.tmp 2] Tryz.func137 rfl rfl rfl ?_
 intro w0 D hw0
 refine Zd (Za (ya rfl rfl (Zf (ρ' := [(0, _)]) ⟨rfl, trivial⟩ ?_)))
 refine Zc (Zd (Za (ya rfl rfl (Zf (ρ' := [(0, _), (3, _)]) ⟨rfl, rfl, trivial⟩ ?_))))
 refine Zc (Zd (Zad ?_))
 refine Zbc (fun m ρ σ u' => ∃ i : Nat, i + m = s.length + 1 ∧ VLe u u' ∧ σ = [] ∧ ρ = [(0, .v (str s)), (3, .v (.int .i64 i))] ∧ (u = u' ∧ i ≤ s.length)) (s.length + 1) ?_ ?_
 ·
  refine ⟨[(0, _), (3, _)], [], ⟨rfl, rfl, trivial⟩, trivial, 0, by omega, VLe.refl _, (by first | rfl | simp), (by first | rfl | (simp only [List.cons.injEq, Prod.mk.injEq, SV.v.injEq, Value.int.injEq, true_and, and_true]; omega) | simp), ?_⟩
  exact ⟨rfl, Nat.zero_le _⟩
 ·
  rintro m ρ σ u' ⟨i, hi2, hle2, rfl, rfl, ⟨rfl, hil⟩⟩
  refine Zd (Zd (Za ?_))
  refine Zbh 10 16 (fun b => b = true → i < s.length) (ρk := [(0, _), (3, _)]) ⟨rfl, rfl, trivial⟩ ?_ fun mb2_9 hm2_9 => ?_
  ·
   refine ym rfl rfl (ym rfl rfl (Zg (Zao rfl rfl Tryz.str9 rfl) rfl (Zg (Zbn rfl rfl rfl) rfl (ym rfl rfl ?_))))
   refine Zae 11 rfl (fun hg2_4 => ?_) (fun hg2_4 => ?_)
   ·
    refine Zk rfl rfl (ym rfl rfl ?_)
    have hlt : i < s.length := by have := of_decide_eq_true hg2_4; omega
    obtain ⟨c, hc, _⟩ := byte_at hlt
    refine Zk rfl rfl (ym rfl rfl (Zk rfl rfl (Zg (Zat rfl Tryz.str9 rfl rfl (j := i) rfl hc) rfl (Zk rfl rfl (Zg (Zaw rfl rfl rfl) rfl (Zg (Zl rfl rfl rfl) rfl ?_))))))
    exact Zac rfl ⟨rfl, rfl, trivial⟩ (by (first | exact fun _ => hlt | exact fun h => absurd h (by decide)))
   ·
    iterate 4 refine Zt rfl rfl rfl rfl ?_
    refine Zg (Zn rfl rfl rfl) rfl ?_
    exact Zac rfl ⟨rfl, rfl, trivial⟩ (by (first | exact fun _ => hlt | exact fun h => absurd h (by decide)))
  refine Zf (ρ' := [(0, _), (3, _), (16, _)]) ⟨rfl, rfl, rfl, trivial⟩ ?_
  refine Zc ?_
  refine Zo rfl (fun hb2 => ?_) (fun hb2 => ?_)
  ·
   have hlt := hm2_9 hb2
   refine Zr (Zc (Zad (Za (ym rfl rfl (Zg (Zav rfl rfl rfl (Zs (by omega))) rfl ?_)))))
   refine ya rfl rfl (Zf (ρ' := [(0, _), (3, _)]) ⟨rfl, rfl, trivial⟩ ?_)
   refine Zah (Zab ?_)
   refine ⟨m - 1, [(0, _), (3, _)], [], by omega, ⟨rfl, rfl, trivial⟩, trivial, i + 1, by omega, hle2, (by first | rfl | simp), (by first | rfl | (simp only [List.cons.injEq, Prod.mk.injEq, SV.v.injEq, Value.int.injEq, true_and, and_true]; omega) | simp), ?_⟩
   exact ⟨rfl, hlt⟩
  ·
   skip
   refine Zax ?_
   refine Zq (Zq ?_)
   refine Zaf ?_
   refine Zc (Zd (Zd (Za ?_)))
   refine Zbh 17 35 (fun b => b = false → i + 2 ≤ s.length) (ρk := [(0, _), (3, _)]) ⟨rfl, rfl, trivial⟩ ?_ fun mb4_16 hm4_16 => ?_
   ·
    refine ym rfl rfl (Zg (Zcn rfl rfl rfl) rfl (ym rfl rfl ?_))
    refine Zae 21 rfl (fun hg4_2 => ?_) (fun hg4_2 => ?_)
    ·
     iterate 5 refine Zt rfl rfl rfl rfl ?_
     refine Zg (Zl rfl rfl rfl) rfl (ym rfl rfl ?_)
     iterate 6 refine Zt rfl rfl rfl rfl ?_
     refine Zg (Zl rfl rfl rfl) rfl ?_
     exact Zac rfl ⟨rfl, rfl, trivial⟩ (by (first | exact fun h => absurd h (by decide) | exact fun _ => hl4))
    ·
     refine Zk rfl rfl (ym rfl rfl (Zk rfl rfl (Zg (Zao rfl rfl Tryz.str9 rfl) rfl (Zk rfl rfl (ym rfl rfl (Zk rfl rfl (Zg (Zav rfl rfl rfl (Zs (by omega))) rfl ?_)))))))
     refine Zk rfl rfl (Zg (Zbn rfl rfl rfl) rfl (Zg (Zn rfl rfl rfl) rfl (ym rfl rfl ?_)))
     refine Zae 28 rfl (fun hg4_9 => ?_) (fun hg4_9 => ?_)
     ·
      iterate 6 refine Zt rfl rfl rfl rfl ?_
      refine Zg (Zl rfl rfl rfl) rfl ?_
      exact Zac rfl ⟨rfl, rfl, trivial⟩ (by (first | exact fun h => absurd h (by decide) | exact fun _ => hl4))
     ·
      refine Zk rfl rfl (ym rfl rfl ?_)
      have hl4 : i + 2 ≤ s.length := by have := of_decide_eq_false hg4_9; omega
      refine Zk rfl rfl (ym rfl rfl (Zk rfl rfl (ym rfl rfl (Zk rfl rfl (Zg (Zav rfl rfl rfl (Zs (by omega))) rfl ?_)))))
      refine Zk rfl rfl (Zg (Zcc rfl Tryz.str9 rfl (i := i) (j := i + 2) rfl rfl (by omega) (by omega)) rfl (Zk rfl rfl (Zg (Zbv rfl rfl rfl) rfl (Zg (Zn rfl rfl rfl) rfl ?_))))
      exact Zac rfl ⟨rfl, rfl, trivial⟩ (by (first | exact fun h => absurd h (by decide) | exact fun _ => hl4))
   refine Zf (ρ' := [(0, _), (3, _), (35, _)]) ⟨rfl, rfl, rfl, trivial⟩ ?_
   refine Zc ?_
   refine Zo rfl (fun hb4 => ?_) (fun hb4 => ?_)
   ·
    skip
    refine Zd (Za (ya rfl rfl (Zf (ρ' := [(2, _)]) ⟨rfl, trivial⟩ ?_)))
    refine Zc (Zw (Zj (Zbe (.tmp rfl) ?_)))
    exact ⟨_, rfl⟩
   ·
    have hl4 := hm4_16 hb4
    refine Zr (Zc (Zd (Za (ym rfl rfl (Zg (Zav rfl rfl rfl (Zs (by omega))) rfl ?_)))))
    refine ya rfl rfl (Zf (ρ' := [(0, _), (3, _)]) ⟨rfl, rfl, trivial⟩ ?_)
    refine Zc (Zd (Zad ?_))
    refine Zbc (fun m ρ σ u' => ∃ j : Nat, j + m = s.length + 1 ∧ VLe u u' ∧ σ = [] ∧ ρ = [(0, .v (str s)), (3, .v (.int .i64 ((i + 2 + j : Nat) : Int)))] ∧ (u = u' ∧ i + 2 + j ≤ s.length)) (s.length + 1) ?_ ?_
    ·
     refine ⟨[(0, _), (3, _)], [], ⟨rfl, rfl, trivial⟩, trivial, 0, by omega, VLe.refl _, (by first | rfl | simp), (by first | rfl | (simp only [List.cons.injEq, Prod.mk.injEq, SV.v.injEq, Value.int.injEq, true_and, and_true]; omega) | simp), ?_⟩
     exact ⟨rfl, hl4⟩
    ·
     rintro mj ρ σ u' ⟨j, hi7, hle7, rfl, rfl, ⟨rfl, hjl⟩⟩
     refine Zd (Zd (Za ?_))
     refine Zbh 10 47 (fun b => b = true → i + 2 + j < s.length) (ρk := [(0, _), (3, _)]) ⟨rfl, rfl, trivial⟩ ?_ fun mb7_9 hm7_9 => ?_
     ·
      refine ym rfl rfl (ym rfl rfl (Zg (Zao rfl rfl Tryz.str9 rfl) rfl (Zg (Zbn rfl rfl rfl) rfl (ym rfl rfl ?_))))
      refine Zae 42 rfl (fun hg7_4 => ?_) (fun hg7_4 => ?_)
      ·
       refine Zk rfl rfl (ym rfl rfl ?_)
       have hlt7 : i + 2 + j < s.length := by have := of_decide_eq_true hg7_4; omega
       obtain ⟨c7, hc7, _⟩ := byte_at hlt7
       refine Zk rfl rfl (ym rfl rfl (Zk rfl rfl (Zg (Zat rfl Tryz.str9 rfl rfl (j := i + 2 + j) rfl hc7) rfl (Zk rfl rfl (Zg (Zaw rfl rfl rfl) rfl (Zg (Zl rfl rfl rfl) rfl ?_))))))
       exact Zac rfl ⟨rfl, rfl, trivial⟩ (by (first | exact fun _ => hlt7 | exact fun h => absurd h (by decide)))
      ·
       iterate 4 refine Zt rfl rfl rfl rfl ?_
       refine Zg (Zn rfl rfl rfl) rfl ?_
       exact Zac rfl ⟨rfl, rfl, trivial⟩ (by (first | exact fun _ => hlt7 | exact fun h => absurd h (by decide)))
     refine Zf (ρ' := [(0, _), (3, _), (47, _)]) ⟨rfl, rfl, rfl, trivial⟩ ?_
     refine Zc ?_
     refine Zo rfl (fun hb7 => ?_) (fun hb7 => ?_)
     ·
      have hlt7 := hm7_9 hb7
      refine Zr (Zc (Zad (Za (ym rfl rfl (Zg (Zav rfl rfl rfl (Zs (by omega))) rfl ?_)))))
      refine ya rfl rfl (Zf (ρ' := [(0, _), (3, _)]) ⟨rfl, rfl, trivial⟩ ?_)
      refine Zah (Zab ?_)
      refine ⟨mj - 1, [(0, _), (3, _)], [], by omega, ⟨rfl, rfl, trivial⟩, trivial, j + 1, by omega, hle7, (by first | rfl | simp), (by first | rfl | (simp only [List.cons.injEq, Prod.mk.injEq, SV.v.injEq, Value.int.injEq, true_and, and_true]; omega) | simp), ?_⟩
      exact ⟨rfl, by omega⟩
     ·
      skip
      refine Zax ?_
      refine Zq (Zq ?_)
      refine Zaf ?_
      refine Zc (Zd (Zd (Za (ym rfl rfl (ym rfl rfl (Zg (Zao rfl rfl Tryz.str9 rfl) rfl (Zg (Zaw rfl rfl rfl) rfl (Zf (ρ' := [(0, _), (3, _), (53, _)]) ⟨rfl, rfl, rfl, trivial⟩ ?_))))))))
      refine Zc ?_
      refine Zo rfl (fun hb9 => ?_) (fun hb9 => ?_)
      ·
       refine Zd (Za (ya rfl rfl (Zf (ρ' := [(2, _)]) ⟨rfl, trivial⟩ ?_)))
       refine Zc (Zw (Zj (Zbe (.tmp rfl) ?_)))
       exact ⟨_, rfl⟩
      ·
       refine Zr (Zc (Zd (Za (ym rfl rfl (ym rfl rfl (Zv rfl rfl ?_))))))
       refine Zaa (caps := []) trivial rfl rfl Tryz.c155 rfl (FnP.mono (parse_fn s (i + 2 + j) (by omega) hs u) ?_)
       rintro v u1 hle1 ⟨id, vc, vp, t, e, rfl, o1, o2, ht⟩
       refine ym rfl rfl (Zg (Zbj rfl rfl rfl) rfl (Zg (Zbj rfl rfl rfl) rfl (Zg (Zbj rfl rfl rfl) rfl (Zv rfl rfl ?_))))
       refine Zas trivial Tryz.z39 rfl rfl rfl ?_
       refine Zv rfl rfl ?_
       refine Zm trivial rfl Tryz.k39 rfl rfl rfl (vs := [_, _, _]) rfl rfl (by simp only [List.all_cons, List.all_nil, o1, o2]; rfl) (Nat.le_of_ble_eq_true rfl) rfl ?_
       refine ya rfl rfl (ya rfl rfl (Zf (ρ' := [(0, _), (5, _), (6, _)]) ⟨rfl, rfl, rfl, trivial⟩ ?_))
       refine Zc (Zd (Zd (Za (ym rfl rfl (Zg (Zck rfl rfl rfl) rfl (Zf (ρ' := [(0, _), (5, _), (62, _)]) ⟨rfl, rfl, rfl, trivial⟩ ?_))))))
       refine Zc ?_
       refine Zo rfl (fun hb12 => ?_) (fun hb12 => ?_)
       ·
        refine Zd (Za (ya rfl rfl (Zf (ρ' := [(2, _)]) ⟨rfl, trivial⟩ ?_)))
        refine Zc (Zw (Zj (Zbe (.tmp rfl) ?_)))
        exact ⟨_, rfl⟩
       ·
        refine Zr (Zc (Zd (Zad ?_)))
        refine Zbc (fun m ρ σ u' => ∃ q : Nat, q + m = s.length + 1 ∧ VLe u u' ∧ σ = [] ∧ ρ = [(0, .v (str s)), (5, .v (.int .i64 ((t + q : Nat) : Int)))] ∧ (u = u')) (s.length + 1) ?_ ?_
        ·
         refine ⟨[(0, _), (5, _)], [], ⟨rfl, rfl, trivial⟩, trivial, 0, by omega, VLe.refl _, (by first | rfl | simp), (by first | rfl | (simp only [List.cons.injEq, Prod.mk.injEq, SV.v.injEq, Value.int.injEq, true_and, and_true]; omega) | simp), ?_⟩
         rfl
        ·
         rintro mq ρ σ u' ⟨q, hi14, hle14, rfl, rfl, rfl⟩
         refine Zd (Zd (Za ?_))
         refine Zbh 10 72 (fun b => b = true → t + q < s.length) (ρk := [(0, _), (5, _)]) ⟨rfl, rfl, trivial⟩ ?_ fun mb14_9 hm14_9 => ?_
         ·
          refine ym rfl rfl (ym rfl rfl (Zg (Zao rfl rfl Tryz.str9 rfl) rfl (Zg (Zbn rfl rfl rfl) rfl (ym rfl rfl ?_))))
          refine Zae 67 rfl (fun hg14_4 => ?_) (fun hg14_4 => ?_)
          ·
           refine Zk rfl rfl (ym rfl rfl ?_)
           have hlt14 : t + q < s.length := by have := of_decide_eq_true hg14_4; omega
           obtain ⟨c14, hc14, _⟩ := byte_at hlt14
           refine Zk rfl rfl (ym rfl rfl (Zk rfl rfl (Zg (Zat rfl Tryz.str9 rfl rfl (j := t + q) rfl hc14) rfl (Zk rfl rfl (Zg (Zaw rfl rfl rfl) rfl (Zg (Zl rfl rfl rfl) rfl ?_))))))
           exact Zac rfl ⟨rfl, rfl, trivial⟩ (by (first | exact fun _ => hlt14 | exact fun h => absurd h (by decide)))
          ·
           iterate 4 refine Zt rfl rfl rfl rfl ?_
           refine Zg (Zn rfl rfl rfl) rfl ?_
           exact Zac rfl ⟨rfl, rfl, trivial⟩ (by (first | exact fun _ => hlt14 | exact fun h => absurd h (by decide)))
         refine Zf (ρ' := [(0, _), (5, _), (72, _)]) ⟨rfl, rfl, rfl, trivial⟩ ?_
         refine Zc ?_
         refine Zo rfl (fun hb14 => ?_) (fun hb14 => ?_)
         ·
          have hlt14 := hm14_9 hb14
          refine Zr (Zc (Zad (Za (ym rfl rfl (Zg (Zav rfl rfl rfl (Zs (by omega))) rfl ?_)))))
          refine ya rfl rfl (Zf (ρ' := [(0, _), (5, _)]) ⟨rfl, rfl, trivial⟩ ?_)
          refine Zah (Zab ?_)
          refine ⟨mq - 1, [(0, _), (5, _)], [], by omega, ⟨rfl, rfl, trivial⟩, trivial, q + 1, by omega, hle14, (by first | rfl | simp), (by first | rfl | (simp only [List.cons.injEq, Prod.mk.injEq, SV.v.injEq, Value.int.injEq, true_and, and_true]; omega) | simp), ?_⟩
          rfl
         ·
          skip
          refine Zax ?_
          refine Zq (Zq ?_)
          refine Zaf ?_
          refine Zc (Zd (Za (ym rfl rfl (ym rfl rfl (Zg (Zao rfl rfl Tryz.str9 rfl) rfl (Zg (Zci rfl rfl rfl) rfl (ya rfl rfl (Zf (ρ' := [(2, _)]) ⟨rfl, trivial⟩ ?_))))))))
          refine Zc (Zw (Zbe (.tmp rfl) ?_))
          exact ⟨_, rfl⟩
theorem closes_fn (s : Bs) (hs : s.length ≤ 1000000) (u : View) : FnP Tryz.prog 120 [str s] u fun r _ => ∃ x, r = .bool x := by
 refine FnP.intro [.tmp 2] Tryz.func120 rfl rfl rfl ?_
 intro w0 D hw0
 refine Zd (Za (ya rfl rfl (Zf (ρ' := [(0, _)]) ⟨rfl, trivial⟩ ?_)))
 refine Zc (Zd (Za (ya rfl rfl (Zf (ρ' := [(0, _), (3, _)]) ⟨rfl, rfl, trivial⟩ ?_))))
 refine Zc (Zd (Zd (Za (ya rfl rfl (Zf (ρ' := [(0, _), (3, _), (4, _)]) ⟨rfl, rfl, rfl, trivial⟩ ?_)))))
 refine Zc (Zad ?_)
 refine Zbc (fun m ρ σ u' => ∃ i : Nat, i + m = s.length ∧ VLe u u' ∧ ∃ (fr : Nat), σ = [] ∧ ρ = [(0, .v (str s)), (3, .v (.int .i64 (fr : Nat))), (4, .v (.int .i64 i))] ∧ (u = u' ∧ fr ≤ i)) (s.length) ?_ ?_
 ·
  refine ⟨[(0, _), (3, _), (4, _)], [], ⟨rfl, rfl, rfl, trivial⟩, trivial, 0, by omega, VLe.refl _, 0, rfl, rfl, ?_⟩
  exact ⟨rfl, Nat.le_refl _⟩
 ·
  rintro m ρ σ u' ⟨i, hi3, hle3, fr, rfl, rfl, ⟨rfl, hfr⟩⟩
  refine Zd (Zd (Za (ym rfl rfl (ym rfl rfl (Zg (Zao rfl rfl Tryz.str9 rfl) rfl (Zg (Zbn rfl rfl rfl) rfl (Zf (ρ' := [(0, _), (3, _), (4, _), (8, _)]) ⟨rfl, rfl, rfl, rfl, trivial⟩ ?_)))))))
  refine Zc ?_
  refine Zo rfl (fun hb3 => ?_) (fun hb3 => ?_)
  ·
   have hlt : i < s.length := by have := of_decide_eq_true hb3; omega
   obtain ⟨c, hc, _⟩ := byte_at hlt
   refine Zr (Zc ?_)
   refine Zbu (fun ρ σ uc4 => ∃ (fr2 : Nat), VLe u uc4 ∧ σ = [] ∧ ρ = [(0, .v (str s)), (3, .v (.int .i64 (fr2 : Nat))), (4, .v (.int .i64 i))] ∧ (u = uc4 ∧ fr2 ≤ i + 1)) ?_ ?_
   ·
    refine Zad (Zd (Za (ym rfl rfl (ym rfl rfl (Zg (Zat rfl Tryz.str9 rfl rfl (j := i) rfl hc) rfl (Zg (Zaw rfl rfl rfl) rfl (Zf (ρ' := [(0, _), (3, _), (4, _), (14, _)]) ⟨rfl, rfl, rfl, rfl, trivial⟩ ?_)))))))
    refine Zc ?_
    refine Zo rfl (fun hb5 => ?_) (fun hb5 => ?_)
    ·
     refine Zd (Zd (Za (ym rfl rfl (ym rfl rfl (ym rfl rfl (Zg (Zcc rfl Tryz.str9 rfl (i := fr) (j := i) rfl rfl hfr (by omega)) rfl (Zv rfl rfl ?_)))))))
     refine Zaa (caps := []) trivial rfl rfl Tryz.c137 rfl (FnP.mono (ending_fn _ (by simp; omega) u) ?_)
     rintro v u1 hle1 ⟨b, rfl⟩
     refine Zf (ρ' := [(0, _), (4, _), (19, _)]) ⟨rfl, rfl, rfl, trivial⟩ ?_
     refine Zc ?_
     refine Zo rfl (fun hb6 => ?_) (fun hb6 => ?_)
     ·
      refine Zd (Za (ya rfl rfl (Zf (ρ' := [(2, _)]) ⟨rfl, trivial⟩ ?_)))
      refine Zc (Zw (Zj (Zu (Zj (Zj (Zu (Zj ?_)))))))
      refine Zbe (.tmp rfl) ?_
      exact ⟨_, rfl⟩
     ·
      refine Zr (Zc (Za (ym rfl rfl (Zg (Zav rfl rfl rfl (Zs (by omega))) rfl ?_))))
      refine ya rfl rfl (Zf (ρ' := [(0, _), (3, _), (4, _)]) ⟨rfl, rfl, rfl, trivial⟩ ?_)
      refine Zah (Zab ?_)
      first
       | (refine ⟨[(0, _), (3, _), (4, _)], [], ⟨rfl, rfl, rfl, trivial⟩, trivial, i + 1, (VLe.refl _), rfl, rfl, ?_⟩
          exact ⟨rfl, Nat.le_refl _⟩)
       | (refine ⟨[(0, _), (3, _), (4, _)], [], ⟨rfl, rfl, rfl, trivial⟩, trivial, fr, (VLe.refl _), rfl, rfl, ?_⟩
          exact ⟨rfl, by omega⟩)
    ·
     refine Zr (Zah (Zab ?_))
     first
      | (refine ⟨[(0, _), (3, _), (4, _)], [], ⟨rfl, rfl, rfl, trivial⟩, trivial, i + 1, (VLe.refl _), rfl, rfl, ?_⟩
         exact ⟨rfl, Nat.le_refl _⟩)
      | (refine ⟨[(0, _), (3, _), (4, _)], [], ⟨rfl, rfl, rfl, trivial⟩, trivial, fr, (VLe.refl _), rfl, rfl, ?_⟩
         exact ⟨rfl, by omega⟩)
   ·
    rintro ρ σ uc4 ⟨fr2, hlc4, rfl, rfl, ⟨rfl, hfr2⟩⟩
    refine Za (ym rfl rfl (Zg (Zav rfl rfl rfl (Zs (by omega))) rfl ?_))
    refine ya rfl rfl (Zf (ρ' := [(0, _), (3, _), (4, _)]) ⟨rfl, rfl, rfl, trivial⟩ ?_)
    refine Zab ?_
    refine ⟨m - 1, [(0, _), (3, _), (4, _)], [], by omega, ⟨rfl, rfl, rfl, trivial⟩, trivial, i + 1, by omega, hle3, fr2, (by first | rfl | simp), (by first | rfl | (simp only [List.cons.injEq, Prod.mk.injEq, SV.v.injEq, Value.int.injEq, true_and, and_true]; omega) | simp), ?_⟩
    exact ⟨rfl, hfr2⟩
  ·
   skip
   refine Zax ?_
   refine Zq (Zq ?_)
   refine Zaf ?_
   refine Zc (Zd (Za (ya rfl rfl (Zf (ρ' := [(2, _)]) ⟨rfl, trivial⟩ ?_))))
   refine Zc (Zw (Zbe (.tmp rfl) ?_))
   exact ⟨_, rfl⟩
theorem label_fn (s : Bs) (hs : s.length ≤ 10000000) (u : View) : FnP Tryz.prog 123 [str s] u fun r _ => ∃ x, r = .bool x := by
 refine FnP.intro [.tmp 2] Tryz.func123 rfl rfl rfl ?_
 intro w0 D hw0
 refine Zd (Za (ya rfl rfl (Zf (ρ' := [(0, _)]) ⟨rfl, trivial⟩ ?_)))
 refine Zc (Zd (Zd (Za ?_)))
 refine Zbh 14 19 (fun _ => True) (ρk := [(0, _)]) ⟨rfl, trivial⟩ ?_ fun mb1_13 hm1_13 => ?_
 ·
  refine ym rfl rfl (Zg (Zao rfl rfl Tryz.str9 rfl) rfl (Zg (Zbn rfl rfl rfl) rfl (ym rfl rfl ?_)))
  refine Zae 9 rfl (fun hg1_3 => ?_) (fun hg1_3 => ?_)
  ·
   iterate 3 refine Zt rfl rfl rfl rfl ?_
   refine Zg (Zl rfl rfl rfl) rfl (ym rfl rfl ?_)
   iterate 4 refine Zt rfl rfl rfl rfl ?_
   refine Zg (Zl rfl rfl rfl) rfl ?_
   exact Zac rfl ⟨rfl, trivial⟩ (trivial)
  ·
   refine Zk rfl rfl (ym rfl rfl (Zk rfl rfl (Zg (Zao rfl rfl Tryz.str9 rfl) rfl (Zk rfl rfl (Zg (Zcn rfl rfl rfl) rfl (Zg (Zn rfl rfl rfl) rfl (ym rfl rfl ?_)))))))
   refine Zae 14 rfl (fun hg1_8 => ?_) (fun hg1_8 => ?_)
   ·
    iterate 4 refine Zt rfl rfl rfl rfl ?_
    refine Zg (Zl rfl rfl rfl) rfl ?_
    exact Zac rfl ⟨rfl, trivial⟩ (trivial)
   ·
    refine Zk rfl rfl (ym rfl rfl (Zk rfl rfl (Zv rfl rfl ?_)))
    refine Zaa (caps := []) trivial rfl rfl Tryz.c142 rfl (FnP.mono (fold_fn s hs u) ?_)
    rintro v u1 hle1 ⟨t, rfl⟩
    refine Zk rfl rfl (ym rfl rfl (Zk rfl rfl (Zg (Zbv rfl rfl rfl) rfl (Zg (Zn rfl rfl rfl) rfl ?_))))
    exact Zac rfl ⟨rfl, trivial⟩ (trivial)
 refine Zf (ρ' := [(0, _), (19, _)]) ⟨rfl, rfl, trivial⟩ ?_
 refine Zc ?_
 refine Zo rfl (fun hb1 => ?_) (fun hb1 => ?_)
 ·
  refine Zd (Za (ya rfl rfl (Zf (ρ' := [(2, _)]) ⟨rfl, trivial⟩ ?_)))
  refine Zc (Zw (Zj (Zbe (.tmp rfl) ?_)))
  exact ⟨_, rfl⟩
 ·
  refine Zr (Zc (Zd (Za (ya rfl rfl (Zf (ρ' := [(0, _), (3, _)]) ⟨rfl, rfl, trivial⟩ ?_)))))
  refine Zc (Zd (Zad ?_))
  refine Zbc (fun m ρ σ u' => ∃ n : Nat, n + m = s.length + 1 ∧ VLe u u' ∧ ∃ (p : Nat), σ = [] ∧ ρ = [(0, .v (str s)), (3, .v (.int .i64 (p : Nat)))] ∧ (u = u' ∧ n ≤ p ∧ p ≤ s.length + 4)) (s.length + 1) ?_ ?_
  ·
   refine ⟨[(0, _), (3, _)], [], ⟨rfl, rfl, trivial⟩, trivial, 0, by omega, VLe.refl _, 0, rfl, rfl, ?_⟩
   exact ⟨rfl, Nat.le_refl _, by omega⟩
  ·
   rintro mn ρ σ u' ⟨n, hi4, hle4, p, rfl, rfl, ⟨rfl, hnp, hps⟩⟩
   refine Zd (Zd (Za (ym rfl rfl (ym rfl rfl (Zg (Zao rfl rfl Tryz.str9 rfl) rfl (Zg (Zbn rfl rfl rfl) rfl (Zf (ρ' := [(0, _), (3, _), (23, _)]) ⟨rfl, rfl, rfl, trivial⟩ ?_)))))))
   refine Zc ?_
   refine Zo rfl (fun hb4 => ?_) (fun hb4 => ?_)
   ·
    have hlt : p < s.length := by have := of_decide_eq_true hb4; omega
    refine Zr (Zc (Zad (Zd (Za (ym rfl rfl (ym rfl rfl (Zv rfl rfl ?_)))))))
    refine Zaa (caps := []) trivial rfl rfl Tryz.c143 rfl (FnP.mono (knext_fn s p hlt (by omega) u) ?_)
    rintro v u1 hle1 ⟨C, N, rfl, hC1, hC2, hN1, hN2⟩
    refine ym rfl rfl (Zg (Zbj rfl rfl rfl) rfl (Zg (Zbj rfl rfl rfl) rfl (ya rfl rfl (ya rfl rfl (Zf (ρ' := [(0, _), (3, _), (4, _), (5, _)]) ⟨rfl, rfl, rfl, rfl, trivial⟩ ?_)))))
    refine Zc (Zd (Zd (Za ?_)))
    refine Zbh 21 50 (fun _ => True) (ρk := [(0, _), (3, _), (5, _)]) ⟨rfl, rfl, rfl, trivial⟩ ?_ fun mb6_20 hm6_20 => ?_
    ·
     refine ym rfl rfl (Zg (Zbn rfl rfl rfl) rfl (ym rfl rfl ?_))
     refine Zae 32 rfl (fun hg6_2 => ?_) (fun hg6_2 => ?_)
     ·
      iterate 4 refine Zt rfl rfl rfl rfl ?_
      iterate 3 refine Zbg rfl rfl rfl ?_
      refine Zt rfl rfl rfl rfl (Zt rfl rfl rfl rfl ?_)
      iterate 7 refine Zbg rfl rfl rfl ?_
      refine Zt rfl rfl rfl rfl (Zg (Zl rfl rfl rfl) rfl ?_)
      exact Zac rfl ⟨rfl, rfl, rfl, trivial⟩ (trivial)
     ·
      refine Zk rfl rfl (ym rfl rfl (Zk rfl rfl (Zv rfl rfl ?_)))
      refine Zaa (caps := []) trivial rfl rfl Tryz.c144 rfl (FnP.mono (kletter_fn C u) ?_)
      rintro v u1 hle1 ⟨b1, rfl⟩
      refine Zk rfl rfl (Zg (Zbr rfl rfl) rfl (Zk rfl rfl (ym rfl rfl ?_)))
      refine Zae 36 rfl (fun hg6_6 => ?_) (fun hg6_6 => ?_)
      ·
       refine Zk rfl rfl (ym rfl rfl (Zk rfl rfl (Zv rfl rfl ?_)))
       refine Zaa (caps := []) trivial rfl rfl Tryz.c145 rfl (FnP.mono (digit_fn C u) ?_)
       rintro v u1 hle1 ⟨b2, rfl⟩
       refine Zk rfl rfl (Zg (Zbr rfl rfl) rfl (Zk rfl rfl (Zg (Zl rfl rfl rfl) rfl (Zk rfl rfl (ym rfl rfl ?_)))))
       refine Zae 41 rfl (fun hg6_11 => ?_) (fun hg6_11 => ?_)
       ·
        refine Zk rfl rfl (ym rfl rfl (Zk rfl rfl (ym rfl rfl (Zk rfl rfl (ym rfl rfl (Zk rfl rfl (Zg (Zav rfl rfl rfl (Zs (by omega))) rfl ?_)))))))
        refine Zk rfl rfl (Zg (Zcc rfl Tryz.str9 rfl (i := p) (j := p + 1) rfl rfl (by omega) (by omega)) rfl (Zk rfl rfl (Zv rfl rfl ?_)))
        refine Zaa (caps := []) trivial rfl rfl Tryz.c141 rfl (FnP.mono (khas_fn _ _ (by simp; omega) (by decide) u) ?_)
        rintro v u1 hle1 ⟨b3, rfl⟩
        refine Zk rfl rfl (Zg (Zbr rfl rfl) rfl (Zk rfl rfl (Zg (Zl rfl rfl rfl) rfl (Zg (Zn rfl rfl rfl) rfl ?_))))
        exact Zac rfl ⟨rfl, rfl, rfl, trivial⟩ (trivial)
       ·
        iterate 7 refine Zt rfl rfl rfl rfl ?_
        refine Zk rfl rfl (Zg (Zn rfl rfl rfl) rfl (Zg (Zn rfl rfl rfl) rfl ?_))
        exact Zac rfl ⟨rfl, rfl, rfl, trivial⟩ (trivial)
      ·
       iterate 3 refine Zt rfl rfl rfl rfl ?_
       refine Zk rfl rfl (Zg (Zn rfl rfl rfl) rfl (Zk rfl rfl (ym rfl rfl ?_)))
       iterate 7 refine Zt rfl rfl rfl rfl ?_
       refine Zk rfl rfl (Zg (Zn rfl rfl rfl) rfl (Zg (Zn rfl rfl rfl) rfl ?_))
       exact Zac rfl ⟨rfl, rfl, rfl, trivial⟩ (trivial)
    refine Zf (ρ' := [(0, _), (3, _), (5, _), (50, _)]) ⟨rfl, rfl, rfl, rfl, trivial⟩ ?_
    refine Zc ?_
    refine Zo rfl (fun hb6 => ?_) (fun hb6 => ?_)
    ·
     refine Zd (Za (ya rfl rfl (Zf (ρ' := [(2, _)]) ⟨rfl, trivial⟩ ?_)))
     refine Zc (Zw (Zj (Zu (Zj (Zu (Zj (Zbe (.tmp rfl) ?_)))))))
     exact ⟨_, rfl⟩
    ·
     refine Zr (Zc (Za (ym rfl rfl (ym rfl rfl (Zg (Zav rfl rfl rfl (Zs (by omega))) rfl ?_)))))
     refine ya rfl rfl (Zf (ρ' := [(0, _), (3, _)]) ⟨rfl, rfl, trivial⟩ ?_)
     refine Zah (Zab ?_)
     refine ⟨mn - 1, [(0, _), (3, _)], [], by omega, ⟨rfl, rfl, trivial⟩, trivial, n + 1, by omega, hle4, p + N.toNat, rfl, (by rw [show ((p + N.toNat : Nat) : Int) = (p : Int) + N by omega]), ?_⟩
     exact ⟨rfl, by omega, by omega⟩
   ·
    skip
    refine Zax ?_
    refine Zq (Zq ?_)
    refine Zaf ?_
    refine Zc (Zd (Za (ya rfl rfl (Zf (ρ' := [(2, _)]) ⟨rfl, trivial⟩ ?_))))
    refine Zc (Zw (Zbe (.tmp rfl) ?_))
    exact ⟨_, rfl⟩
theorem anyOf_fn (n : Nat) : ∀ (v : Value) (xs : List Inl) (le : Bool) (u : View), szI xs ≤ n → szI xs ≤ 1000000 → InlS u v xs → FnP Tryz.prog 135 [v, .bool le] u fun r _ => ∃ x, r = .bool x := by
 induction n using Nat.strongRecOn with
 | _ n ih =>
 intro v xs le u hsz hbig ha
 have hlx := len_szI xs
 obtain ⟨cs, ⟨ad, cap, rfl, h1⟩, hc1⟩ := ha
 refine FnP.intro [.tmp 4] Tryz.func135 rfl rfl rfl ?_
 intro w0 D hw0
 refine Zd (Za (ya rfl rfl (Zf (ρ' := [(0, _), (1, _)]) ⟨rfl, rfl, trivial⟩ ?_)))
 refine Zc (Zd (Zd (Za (ya rfl rfl (Zf (ρ' := [(0, _), (1, _), (5, _)]) ⟨rfl, rfl, rfl, trivial⟩ ?_)))))
 refine Zc (Zad ?_)
 refine Zbc (fun m ρ σ u' => ∃ i : Nat, i + m = xs.length ∧ VLe u u' ∧ σ = [] ∧ ρ = [(0, .v (.slice ad xs.length cap)), (1, .v (.bool le)), (5, .v (.int .i64 i))] ∧ (u = u')) (xs.length) ?_ ?_
 ·
  refine ⟨[(0, _), (1, _), (5, _)], [], ⟨rfl, rfl, rfl, trivial⟩, trivial, 0, by omega, VLe.refl _, (by first | rfl | simp), (by first | rfl | (simp only [List.cons.injEq, Prod.mk.injEq, SV.v.injEq, Value.int.injEq, true_and, and_true]; omega) | simp), ?_⟩
  rfl
 ·
  rintro m ρ σ u' ⟨i, hi2, hle2, rfl, rfl, rfl⟩
  refine Zd (Zd (Za (ym rfl rfl (ym rfl rfl (Zg (Zaq rfl rfl Tryz.s35 rfl) rfl (Zg (Zbn rfl rfl rfl) rfl (Zf (ρ' := [(0, _), (1, _), (5, _), (10, _)]) ⟨rfl, rfl, rfl, rfl, trivial⟩ ?_)))))))
  refine Zc ?_
  refine Zo rfl (fun hb2 => ?_) (fun hb2 => ?_)
  ·
   have hlt : i < xs.length := by have := of_decide_eq_true hb2; omega
   obtain ⟨k, t, d, ti, a, args, cites, kids, vc, vp, va, vt, vk, hg, hcut1, s1, s2, s3, s4, s5, hok⟩ := hc1.at hlt
   have oneAll := (hc1.get i _ hg).one
   rw [hcut1] at oneAll
   have hszk := szI_kids hg
   refine Zr (Zc (Zd (Zad (Zd (Za (ym rfl rfl (ym rfl rfl ?_)))))))
   refine Zg (Zai rfl Tryz.s35 rfl rfl (by assumption) (by first | rfl | omega) (by omega)) rfl (Zg (Zau rfl Tryz.f42' rfl (by decide) rfl) rfl (Zg (Zag rfl Tryz.k3 rfl (by assumption) (by omega) (by assumption) (vs := [_]) rfl rfl rfl rfl) rfl (ya rfl rfl (Zf (ρ' := [(0, _), (1, _), (5, _), (6, _)]) ⟨rfl, rfl, rfl, rfl, trivial⟩ ?_))))
   refine Zc (Zd (Za ?_))
   refine Zbh 26 43 (fun _ => True) (ρk := [(0, _), (1, _), (5, _)]) ⟨rfl, rfl, rfl, trivial⟩ ?_ fun mb5_25 hm5_25 => ?_
   ·
    refine ym rfl rfl (Zg (Zbr rfl rfl) rfl (ym rfl rfl ?_))
    refine Zae 20 rfl (fun hg5_2 => ?_) (fun hg5_2 => ?_)
    ·
     refine Zk rfl rfl (ym rfl rfl (Zk rfl rfl (Zv rfl rfl ?_)))
     refine Zaa (caps := []) trivial rfl rfl Tryz.c153 rfl (FnP.mono (reference_fn k u) ?_)
     rintro v u1 hle1 ⟨b1, rfl⟩
     refine Zg (Zl rfl rfl rfl) rfl (ym rfl rfl ?_)
     refine Zae 24 rfl (fun hg5_6 => ?_) (fun hg5_6 => ?_)
     ·
      refine Zt rfl rfl rfl rfl (Zt rfl rfl rfl rfl ?_)
      iterate 6 refine Zbg rfl rfl rfl ?_
      refine Zt rfl rfl rfl rfl (Zg (Zl rfl rfl rfl) rfl (ym rfl rfl ?_))
      iterate 7 refine Zt rfl rfl rfl rfl ?_
      refine Zg (Zl rfl rfl rfl) rfl ?_
      exact Zac rfl ⟨rfl, rfl, rfl, trivial⟩ (trivial)
     ·
      refine Zk rfl rfl (ym rfl rfl (Zk rfl rfl (ym rfl rfl ?_)))
      refine Zae 26 rfl (fun hg5_8 => ?_) (fun hg5_8 => ?_)
      ·
       refine Zk rfl rfl (ym rfl rfl (Zk rfl rfl (Zg (Zaw rfl rfl rfl) rfl (Zk rfl rfl (ym rfl rfl ?_)))))
       refine Zae 29 rfl (fun hg5_11 => ?_) (fun hg5_11 => ?_)
       ·
        refine Zt rfl rfl rfl rfl (Zt rfl rfl rfl rfl (Zk rfl rfl (Zg (Zl rfl rfl rfl) rfl (Zk rfl rfl (Zg (Zl rfl rfl rfl) rfl (Zg (Zn rfl rfl rfl) rfl (ym rfl rfl ?_)))))))
        iterate 7 refine Zt rfl rfl rfl rfl ?_
        refine Zg (Zl rfl rfl rfl) rfl ?_
        exact Zac rfl ⟨rfl, rfl, rfl, trivial⟩ (trivial)
       ·
        refine Zk rfl rfl (ym rfl rfl (Zk rfl rfl (Zg (Zaw rfl rfl rfl) rfl (Zk rfl rfl (Zg (Zn rfl rfl rfl) rfl (Zk rfl rfl (Zg (Zl rfl rfl rfl) rfl ?_)))))))
        refine Zg (Zn rfl rfl rfl) rfl (ym rfl rfl ?_)
        refine Zae 35 rfl (fun hg5_17 => ?_) (fun hg5_17 => ?_)
        ·
         iterate 7 refine Zt rfl rfl rfl rfl ?_
         refine Zg (Zl rfl rfl rfl) rfl ?_
         exact Zac rfl ⟨rfl, rfl, rfl, trivial⟩ (trivial)
        ·
         refine Zk rfl rfl (ym rfl rfl (Zk rfl rfl (ym rfl rfl (Zk rfl rfl (Zg (Zai rfl Tryz.s35 rfl rfl (by assumption) (by first | rfl | omega) (by omega)) rfl (Zk rfl rfl (Zg (Zau rfl Tryz.f42' rfl (by decide) rfl) rfl ?_)))))))
         refine Zk rfl rfl (Zg (Zag rfl Tryz.k35 rfl (by assumption) (by omega) (by assumption) (vs := [_]) rfl rfl rfl rfl) rfl (Zk rfl rfl (ym rfl rfl (Zk rfl rfl (Zv rfl rfl ?_)))))
         refine Zaa (caps := []) trivial rfl rfl Tryz.c135 rfl (FnP.mono (ih (szI kids) (by omega) vk kids le u (Nat.le_refl _) (by omega) s5) ?_)
         rintro v u1 hle1 ⟨b2, rfl⟩
         refine Zg (Zn rfl rfl rfl) rfl ?_
         exact Zac rfl ⟨rfl, rfl, rfl, trivial⟩ (trivial)
      ·
       iterate 3 refine Zt rfl rfl rfl rfl ?_
       refine Zbg rfl rfl rfl (Zbg rfl rfl rfl (Zt rfl rfl rfl rfl (Zk rfl rfl (Zg (Zn rfl rfl rfl) rfl (Zg (Zn rfl rfl rfl) rfl (ym rfl rfl (Zk rfl rfl ?_)))))))
       refine ym rfl rfl (Zk rfl rfl (ym rfl rfl (Zk rfl rfl (Zg (Zai rfl Tryz.s35 rfl rfl (by assumption) (by first | rfl | omega) (by omega)) rfl (Zk rfl rfl (Zg (Zau rfl Tryz.f42' rfl (by decide) rfl) rfl (Zk rfl rfl ?_)))))))
       refine Zg (Zag rfl Tryz.k35 rfl (by assumption) (by omega) (by assumption) (vs := [_]) rfl rfl rfl rfl) rfl (Zk rfl rfl (ym rfl rfl (Zk rfl rfl (Zv rfl rfl ?_))))
       refine Zaa (caps := []) trivial rfl rfl Tryz.c135 rfl (FnP.mono (ih (szI kids) (by omega) vk kids le u (Nat.le_refl _) (by omega) s5) ?_)
       rintro v u1 hle1 ⟨b2, rfl⟩
       refine Zg (Zn rfl rfl rfl) rfl ?_
       exact Zac rfl ⟨rfl, rfl, rfl, trivial⟩ (trivial)
    ·
     refine Zt rfl rfl rfl rfl (Zt rfl rfl rfl rfl (Zg (Zn rfl rfl rfl) rfl (ym rfl rfl (Zk rfl rfl (ym rfl rfl (Zk rfl rfl (ym rfl rfl ?_)))))))
     refine Zae 26 rfl (fun hg5_8 => ?_) (fun hg5_8 => ?_)
     ·
      refine Zk rfl rfl (ym rfl rfl (Zk rfl rfl (Zg (Zaw rfl rfl rfl) rfl (Zk rfl rfl (ym rfl rfl ?_)))))
      refine Zae 29 rfl (fun hg5_11 => ?_) (fun hg5_11 => ?_)
      ·
       refine Zt rfl rfl rfl rfl (Zt rfl rfl rfl rfl (Zk rfl rfl (Zg (Zl rfl rfl rfl) rfl (Zk rfl rfl (Zg (Zl rfl rfl rfl) rfl (Zg (Zn rfl rfl rfl) rfl (ym rfl rfl ?_)))))))
       iterate 7 refine Zt rfl rfl rfl rfl ?_
       refine Zg (Zl rfl rfl rfl) rfl ?_
       exact Zac rfl ⟨rfl, rfl, rfl, trivial⟩ (trivial)
      ·
       refine Zk rfl rfl (ym rfl rfl (Zk rfl rfl (Zg (Zaw rfl rfl rfl) rfl (Zk rfl rfl (Zg (Zn rfl rfl rfl) rfl (Zk rfl rfl (Zg (Zl rfl rfl rfl) rfl ?_)))))))
       refine Zg (Zn rfl rfl rfl) rfl (ym rfl rfl ?_)
       refine Zae 35 rfl (fun hg5_17 => ?_) (fun hg5_17 => ?_)
       ·
        iterate 7 refine Zt rfl rfl rfl rfl ?_
        refine Zg (Zl rfl rfl rfl) rfl ?_
        exact Zac rfl ⟨rfl, rfl, rfl, trivial⟩ (trivial)
       ·
        refine Zk rfl rfl (ym rfl rfl (Zk rfl rfl (ym rfl rfl (Zk rfl rfl (Zg (Zai rfl Tryz.s35 rfl rfl (by assumption) (by first | rfl | omega) (by omega)) rfl (Zk rfl rfl (Zg (Zau rfl Tryz.f42' rfl (by decide) rfl) rfl ?_)))))))
        refine Zk rfl rfl (Zg (Zag rfl Tryz.k35 rfl (by assumption) (by omega) (by assumption) (vs := [_]) rfl rfl rfl rfl) rfl (Zk rfl rfl (ym rfl rfl (Zk rfl rfl (Zv rfl rfl ?_)))))
        refine Zaa (caps := []) trivial rfl rfl Tryz.c135 rfl (FnP.mono (ih (szI kids) (by omega) vk kids le u (Nat.le_refl _) (by omega) s5) ?_)
        rintro v u1 hle1 ⟨b2, rfl⟩
        refine Zg (Zn rfl rfl rfl) rfl ?_
        exact Zac rfl ⟨rfl, rfl, rfl, trivial⟩ (trivial)
     ·
      iterate 3 refine Zt rfl rfl rfl rfl ?_
      refine Zbg rfl rfl rfl (Zbg rfl rfl rfl (Zt rfl rfl rfl rfl (Zk rfl rfl (Zg (Zn rfl rfl rfl) rfl (Zg (Zn rfl rfl rfl) rfl (ym rfl rfl (Zk rfl rfl ?_)))))))
      refine ym rfl rfl (Zk rfl rfl (ym rfl rfl (Zk rfl rfl (Zg (Zai rfl Tryz.s35 rfl rfl (by assumption) (by first | rfl | omega) (by omega)) rfl (Zk rfl rfl (Zg (Zau rfl Tryz.f42' rfl (by decide) rfl) rfl (Zk rfl rfl ?_)))))))
      refine Zg (Zag rfl Tryz.k35 rfl (by assumption) (by omega) (by assumption) (vs := [_]) rfl rfl rfl rfl) rfl (Zk rfl rfl (ym rfl rfl (Zk rfl rfl (Zv rfl rfl ?_))))
      refine Zaa (caps := []) trivial rfl rfl Tryz.c135 rfl (FnP.mono (ih (szI kids) (by omega) vk kids le u (Nat.le_refl _) (by omega) s5) ?_)
      rintro v u1 hle1 ⟨b2, rfl⟩
      refine Zg (Zn rfl rfl rfl) rfl ?_
      exact Zac rfl ⟨rfl, rfl, rfl, trivial⟩ (trivial)
   refine Zf (ρ' := [(0, _), (1, _), (5, _), (43, _)]) ⟨rfl, rfl, rfl, rfl, trivial⟩ ?_
   refine Zc ?_
   refine Zo rfl (fun hb5 => ?_) (fun hb5 => ?_)
   ·
    refine Zd (Za (ya rfl rfl (Zf (ρ' := [(4, _)]) ⟨rfl, trivial⟩ ?_)))
    refine Zc (Zw (Zu (Zj (Zj (Zu (Zj (Zbe (.tmp rfl) ?_)))))))
    exact ⟨_, rfl⟩
   ·
    refine Zr (Zah (Zc (Za (ym rfl rfl (Zg (Zav rfl rfl rfl (Zs (by omega))) rfl ?_)))))
    refine ya rfl rfl (Zf (ρ' := [(0, _), (1, _), (5, _)]) ⟨rfl, rfl, rfl, trivial⟩ ?_)
    refine Zab ?_
    refine ⟨m - 1, [(0, _), (1, _), (5, _)], [], by omega, ⟨rfl, rfl, rfl, trivial⟩, trivial, i + 1, by omega, hle2, (by first | rfl | simp), (by first | rfl | (simp only [List.cons.injEq, Prod.mk.injEq, SV.v.injEq, Value.int.injEq, true_and, and_true]; omega) | simp), ?_⟩
    rfl
  ·
   skip
   refine Zax ?_
   refine Zq (Zq ?_)
   refine Zaf ?_
   refine Zc (Zd (Za (ya rfl rfl (Zf (ρ' := [(4, _)]) ⟨rfl, trivial⟩ ?_))))
   refine Zc (Zw (Zbe (.tmp rfl) ?_))
   exact ⟨_, rfl⟩
theorem auto_fn (s : Bs) (hs : s.length ≤ 10000000) (u : View) : FnP Tryz.prog 169 [str s] u fun r _ => ∃ x, r = .bool x := by
 refine FnP.intro [.tmp 2] Tryz.func169 rfl rfl rfl ?_
 intro w0 D hw0
 refine Zd (Za (ya rfl rfl (Zf (ρ' := [(0, _)]) ⟨rfl, trivial⟩ ?_)))
 refine Zc (Zd (Za (ya rfl rfl (Zf (ρ' := [(0, _), (3, _)]) ⟨rfl, rfl, trivial⟩ ?_))))
 refine Zc (Zd (Zad ?_))
 refine Zbc (fun m ρ σ u' => ∃ i : Nat, i + m = s.length + 1 ∧ VLe u u' ∧ σ = [] ∧ ρ = [(0, .v (str s)), (3, .v (.int .i64 i))] ∧ (u = u' ∧ i ≤ s.length)) (s.length + 1) ?_ ?_
 ·
  refine ⟨[(0, _), (3, _)], [], ⟨rfl, rfl, trivial⟩, trivial, 0, by omega, VLe.refl _, (by first | rfl | simp), (by first | rfl | (simp only [List.cons.injEq, Prod.mk.injEq, SV.v.injEq, Value.int.injEq, true_and, and_true]; omega) | simp), ?_⟩
  exact ⟨rfl, Nat.zero_le _⟩
 ·
  rintro m ρ σ u' ⟨i, hi2, hle2, rfl, rfl, ⟨rfl, hil⟩⟩
  refine Zd (Zd (Za ?_))
  refine Zbh 28 31 (fun b => b = true → i < s.length) (ρk := [(0, _), (3, _)]) ⟨rfl, rfl, trivial⟩ ?_ fun mb2_27 hm2_27 => ?_
  ·
   refine ym rfl rfl (ym rfl rfl (Zg (Zao rfl rfl Tryz.str9 rfl) rfl (Zg (Zbn rfl rfl rfl) rfl (ym rfl rfl ?_))))
   refine Zae 8 rfl (fun hg2_4 => ?_) (fun hg2_4 => ?_)
   ·
    refine Zk rfl rfl (ym rfl rfl ?_)
    have hlt : i < s.length := by have := of_decide_eq_true hg2_4; omega
    obtain ⟨c, hc, _⟩ := byte_at hlt
    refine Zk rfl rfl (ym rfl rfl (Zk rfl rfl (Zg (Zat rfl Tryz.str9 rfl rfl (j := i) rfl hc) rfl (Zk rfl rfl (Zg (Zci rfl rfl rfl) rfl (Zk rfl rfl (ym rfl rfl ?_)))))))
    refine Zae 13 rfl (fun hg2_9 => ?_) (fun hg2_9 => ?_)
    ·
     refine Zk rfl rfl (ym rfl rfl (Zk rfl rfl (ym rfl rfl (Zk rfl rfl (Zg (Zat rfl Tryz.str9 rfl rfl (j := i) rfl hc) rfl (Zk rfl rfl (Zg (y_leq rfl rfl rfl) rfl ?_)))))))
     refine Zk rfl rfl (Zg (Zl rfl rfl rfl) rfl (Zk rfl rfl (ym rfl rfl ?_)))
     refine Zae 19 rfl (fun hg2_15 => ?_) (fun hg2_15 => ?_)
     ·
      iterate 5 refine Zt rfl rfl rfl rfl ?_
      iterate 4 refine Zbg rfl rfl rfl ?_
      refine Zt rfl rfl rfl rfl (Zk rfl rfl (Zg (Zl rfl rfl rfl) rfl (Zg (Zl rfl rfl rfl) rfl ?_)))
      exact Zac rfl ⟨rfl, rfl, trivial⟩ (by (first | exact fun _ => hlt | exact fun h => absurd h (by decide)))
     ·
      refine Zk rfl rfl (ym rfl rfl (Zk rfl rfl (ym rfl rfl (Zk rfl rfl (Zg (Zat rfl Tryz.str9 rfl rfl (j := i) rfl hc) rfl (Zk rfl rfl (Zg (Zci rfl rfl rfl) rfl ?_)))))))
      refine Zk rfl rfl (ym rfl rfl ?_)
      refine Zae 24 rfl (fun hg2_20 => ?_) (fun hg2_20 => ?_)
      ·
       refine Zk rfl rfl (ym rfl rfl (Zk rfl rfl (ym rfl rfl (Zk rfl rfl (Zg (Zat rfl Tryz.str9 rfl rfl (j := i) rfl hc) rfl (Zk rfl rfl (Zg (y_leq rfl rfl rfl) rfl ?_)))))))
       refine Zk rfl rfl (Zg (Zl rfl rfl rfl) rfl (Zk rfl rfl (Zg (Zn rfl rfl rfl) rfl (Zg (Zl rfl rfl rfl) rfl ?_))))
       exact Zac rfl ⟨rfl, rfl, trivial⟩ (by (first | exact fun _ => hlt | exact fun h => absurd h (by decide)))
      ·
       iterate 4 refine Zt rfl rfl rfl rfl ?_
       refine Zk rfl rfl (Zg (Zn rfl rfl rfl) rfl (Zk rfl rfl (Zg (Zn rfl rfl rfl) rfl (Zg (Zl rfl rfl rfl) rfl ?_))))
       exact Zac rfl ⟨rfl, rfl, trivial⟩ (by (first | exact fun _ => hlt | exact fun h => absurd h (by decide)))
    ·
     iterate 4 refine Zt rfl rfl rfl rfl ?_
     refine Zk rfl rfl (Zg (Zn rfl rfl rfl) rfl (Zk rfl rfl (ym rfl rfl (Zk rfl rfl (ym rfl rfl (Zk rfl rfl (ym rfl rfl ?_)))))))
     refine Zk rfl rfl (Zg (Zat rfl Tryz.str9 rfl rfl (j := i) rfl hc) rfl (Zk rfl rfl (Zg (Zci rfl rfl rfl) rfl (Zk rfl rfl (ym rfl rfl ?_)))))
     refine Zae 24 rfl (fun hg2_20 => ?_) (fun hg2_20 => ?_)
     ·
      refine Zk rfl rfl (ym rfl rfl (Zk rfl rfl (ym rfl rfl (Zk rfl rfl (Zg (Zat rfl Tryz.str9 rfl rfl (j := i) rfl hc) rfl (Zk rfl rfl (Zg (y_leq rfl rfl rfl) rfl ?_)))))))
      refine Zk rfl rfl (Zg (Zl rfl rfl rfl) rfl (Zk rfl rfl (Zg (Zn rfl rfl rfl) rfl (Zg (Zl rfl rfl rfl) rfl ?_))))
      exact Zac rfl ⟨rfl, rfl, trivial⟩ (by (first | exact fun _ => hlt | exact fun h => absurd h (by decide)))
     ·
      iterate 4 refine Zt rfl rfl rfl rfl ?_
      refine Zk rfl rfl (Zg (Zn rfl rfl rfl) rfl (Zk rfl rfl (Zg (Zn rfl rfl rfl) rfl (Zg (Zl rfl rfl rfl) rfl ?_))))
      exact Zac rfl ⟨rfl, rfl, trivial⟩ (by (first | exact fun _ => hlt | exact fun h => absurd h (by decide)))
   ·
    iterate 5 refine Zt rfl rfl rfl rfl ?_
    iterate 4 refine Zbg rfl rfl rfl ?_
    refine Zt rfl rfl rfl rfl (Zt rfl rfl rfl rfl ?_)
    iterate 10 refine Zbg rfl rfl rfl ?_
    refine Zt rfl rfl rfl rfl (Zg (Zn rfl rfl rfl) rfl ?_)
    exact Zac rfl ⟨rfl, rfl, trivial⟩ (by (first | exact fun _ => hlt | exact fun h => absurd h (by decide)))
  refine Zf (ρ' := [(0, _), (3, _), (31, _)]) ⟨rfl, rfl, rfl, trivial⟩ ?_
  refine Zc ?_
  refine Zo rfl (fun hb2 => ?_) (fun hb2 => ?_)
  ·
   have hlt := hm2_27 hb2
   refine Zr (Zc (Zad (Za (ym rfl rfl (Zg (Zav rfl rfl rfl (Zs (by omega))) rfl ?_)))))
   refine ya rfl rfl (Zf (ρ' := [(0, _), (3, _)]) ⟨rfl, rfl, trivial⟩ ?_)
   refine Zah (Zab ?_)
   refine ⟨m - 1, [(0, _), (3, _)], [], by omega, ⟨rfl, rfl, trivial⟩, trivial, i + 1, by omega, hle2, (by first | rfl | simp), (by first | rfl | (simp only [List.cons.injEq, Prod.mk.injEq, SV.v.injEq, Value.int.injEq, true_and, and_true]; omega) | simp), ?_⟩
   exact ⟨rfl, hlt⟩
  ·
   skip
   refine Zax ?_
   refine Zq (Zq ?_)
   refine Zaf ?_
   refine Zc (Zd (Za ?_))
   refine Zbh 27 60 (fun _ => True) (ρk := []) trivial ?_ fun mb4_26 hm4_26 => ?_
   ·
    refine ym rfl rfl (Zg (Zci rfl rfl rfl) rfl (ym rfl rfl ?_))
    refine Zae 36 rfl (fun hg4_2 => ?_) (fun hg4_2 => ?_)
    ·
     refine Zk rfl rfl (ym rfl rfl (Zk rfl rfl (Zg (y_leq rfl rfl rfl) rfl (Zg (Zl rfl rfl rfl) rfl (ym rfl rfl ?_)))))
     refine Zae 40 rfl (fun hg4_6 => ?_) (fun hg4_6 => ?_)
     ·
      refine Zk rfl rfl (ym rfl rfl (Zk rfl rfl (ym rfl rfl (Zk rfl rfl (Zg (Zao rfl rfl Tryz.str9 rfl) rfl (Zk rfl rfl (Zg (Zbn rfl rfl rfl) rfl ?_)))))))
      refine Zg (Zl rfl rfl rfl) rfl (ym rfl rfl ?_)
      refine Zae 46 rfl (fun hg4_12 => ?_) (fun hg4_12 => ?_)
      ·
       refine Zk rfl rfl (ym rfl rfl ?_)
       have hlt4 : i < s.length := by have := of_decide_eq_true hg4_12; omega
       obtain ⟨c4, hc4, _⟩ := byte_at hlt4
       refine Zk rfl rfl (ym rfl rfl (Zk rfl rfl (Zg (Zat rfl Tryz.str9 rfl rfl (j := i) rfl hc4) rfl (Zk rfl rfl (Zg (Zaw rfl rfl rfl) rfl (Zg (Zl rfl rfl rfl) rfl (ym rfl rfl ?_)))))))
       refine Zae 52 rfl (fun hg4_18 => ?_) (fun hg4_18 => ?_)
       ·
        refine Zk rfl rfl (ym rfl rfl (Zk rfl rfl (Zv rfl rfl ?_)))
        refine Zaa (caps := []) trivial rfl rfl Tryz.c35 rfl (FnP.mono (line4_fn s hs u) ?_)
        rintro v u1 hle1 ⟨b1, rfl, _⟩
        refine Zg (Zl rfl rfl rfl) rfl (ym rfl rfl ?_)
        refine Zae 56 rfl (fun hg4_22 => ?_) (fun hg4_22 => ?_)
        ·
         refine Zk rfl rfl (ym rfl rfl (Zk rfl rfl (Zv rfl rfl ?_)))
         refine Zaa (caps := []) trivial rfl rfl Tryz.c141 rfl (FnP.mono (khas_fn s _ hs (by decide) u) ?_)
         rintro v u1 hle1 ⟨b2, rfl⟩
         refine Zk rfl rfl (Zg (Zbr rfl rfl) rfl (Zg (Zl rfl rfl rfl) rfl ?_))
         exact Zac rfl trivial (trivial)
        ·
         iterate 3 refine Zt rfl rfl rfl rfl ?_
         refine Zg (Zn rfl rfl rfl) rfl ?_
         exact Zac rfl trivial (trivial)
       ·
        refine Zt rfl rfl rfl rfl (Zt rfl rfl rfl rfl (Zg (Zn rfl rfl rfl) rfl (ym rfl rfl ?_)))
        iterate 3 refine Zt rfl rfl rfl rfl ?_
        refine Zg (Zn rfl rfl rfl) rfl ?_
        exact Zac rfl trivial (trivial)
      ·
       iterate 4 refine Zt rfl rfl rfl rfl ?_
       refine Zg (Zn rfl rfl rfl) rfl (ym rfl rfl (Zt rfl rfl rfl rfl (Zt rfl rfl rfl rfl (Zg (Zn rfl rfl rfl) rfl (ym rfl rfl ?_)))))
       iterate 3 refine Zt rfl rfl rfl rfl ?_
       refine Zg (Zn rfl rfl rfl) rfl ?_
       exact Zac rfl trivial (trivial)
     ·
      iterate 4 refine Zt rfl rfl rfl rfl ?_
      refine Zg (Zn rfl rfl rfl) rfl (ym rfl rfl ?_)
      iterate 4 refine Zt rfl rfl rfl rfl ?_
      refine Zg (Zn rfl rfl rfl) rfl (ym rfl rfl (Zt rfl rfl rfl rfl (Zt rfl rfl rfl rfl (Zg (Zn rfl rfl rfl) rfl (ym rfl rfl ?_)))))
      iterate 3 refine Zt rfl rfl rfl rfl ?_
      refine Zg (Zn rfl rfl rfl) rfl ?_
      exact Zac rfl trivial (trivial)
    ·
     refine Zt rfl rfl rfl rfl (Zt rfl rfl rfl rfl (Zg (Zn rfl rfl rfl) rfl (ym rfl rfl ?_)))
     iterate 4 refine Zt rfl rfl rfl rfl ?_
     refine Zg (Zn rfl rfl rfl) rfl (ym rfl rfl ?_)
     iterate 4 refine Zt rfl rfl rfl rfl ?_
     refine Zg (Zn rfl rfl rfl) rfl (ym rfl rfl (Zt rfl rfl rfl rfl (Zt rfl rfl rfl rfl (Zg (Zn rfl rfl rfl) rfl (ym rfl rfl ?_)))))
     iterate 3 refine Zt rfl rfl rfl rfl ?_
     refine Zg (Zn rfl rfl rfl) rfl ?_
     exact Zac rfl trivial (trivial)
   refine ya rfl rfl (Zf (ρ' := [(2, _)]) ⟨rfl, trivial⟩ ?_)
   refine Zc (Zw (Zbe (.tmp rfl) ?_))
   exact ⟨_, rfl⟩
end Go.Proofs.Ythkgcakpjknlbaa
