/- Texts for a law, part 5: they walk the functions that the law reaches, and state what holds of them; without conditions beyond each theorem's own. -/
import Derived.Test.YthkgcakpjknlbaaGreatDoorSartD
namespace Go.Proofs.Ythkgcakpjknlbaa
open Go Go.Eng
set_option linter.unusedSimpArgs false
set_option linter.unusedVariables false
set_option maxRecDepth 4000
abbrev visV (b4 b6 b3 b7 : Nat) : Value := .func (.func 47) #[] #[.pointer (some ⟨b4, 0, none⟩), .pointer (some ⟨b6, 0, none⟩), .pointer (some ⟨b3, 0, none⟩), .pointer (some ⟨b7, 0, none⟩)]
abbrev visL (b3 b4 b5 bm b6 b7 : Nat) (x : Cs) (ao : Option Addr) (co : Nat) (acc : List Value) (kvs : List (Value × Value)) : List PO :=
 [(some b3, .box [.slice ao x.out.length co]), (some b4, .box (arr 6 fun j => x.f (j + 1))), (some b5, .box [.map (some bm)]), (some bm, .mp kvs), (some b6, .box [cntV b5]), (some b7, .box [visV b4 b6 b3 b7]), (none, .rwv (.slice ao x.out.length co) 50 4 x.out.length acc)]
set_option maxHeartbeats 8000000 in
theorem visN_fn (b3 b4 b5 bm b6 b7 : Nat) (n : Nat) : ∀ (v : Value) (bs : List Blk) (free : Bool) (x : Cs) (ao : Option Addr) (co : Nat) (acc : List Value) (kvs : List (Value × Value)) (B : Nat) (u : View), TabU u → szB bs ≤ n → B + szB bs ≤ 9000 → CsLe B x → smB bs → BlkS u v bs → NumsC u x.out acc → CtrM kvs (cOf x.g 0) →
  FnO Tryz.prog 47 [v, .bool free, .pointer (some ⟨b4, 0, none⟩), .pointer (some ⟨b6, 0, none⟩), .pointer (some ⟨b3, 0, none⟩), .pointer (some ⟨b7, 0, none⟩)] u (visL b3 b4 b5 bm b6 b7 x ao co acc kvs)
   fun r u' l' => r = .tuple #[] ∧ ∃ ao' co' acc' kvs', l' = visL b3 b4 b5 bm b6 b7 (numbB free x bs) ao' co' acc' kvs' ∧ NumsC u' (numbB free x bs).out acc' ∧ CtrM kvs' (cOf (numbB free x bs).g 0) := by
 induction n using Nat.strongRecOn with
 | _ n ih =>
 intro v bs free x ao co acc kvs B u hT hsz hbig hB hsm ha hn hM
 have hlx := len_szB bs
 obtain ⟨cs, ⟨ad, cap, rfl, h1⟩, hc1⟩ := ha
 refine FnO.intro [] Tryz.func47 rfl rfl rfl ?_
 intro w0 D hw0
 refine Zco 2 1001 _ 0 rfl rfl ?_
 refine Zco 3 1004 _ 0 rfl rfl ?_
 refine Zco 4 1000 _ 0 rfl rfl ?_
 refine Zco 5 1005 _ 0 rfl rfl ?_
 refine Zd (Za (ym rfl rfl (Zg (Zaq rfl rfl Tryz.s23 rfl) rfl (ym rfl rfl (Zf (ρ' := [(1, _), (2, _), (3, _), (4, _), (5, _), (11, _), (12, _), (13, _)]) ⟨rfl, rfl, rfl, rfl, rfl, rfl, rfl, rfl, trivial⟩ ?_)))))
 refine Zc (Zad ?_)
 refine Zbc (fun m ρ σ u' => ∃ i : Nat, i + m = bs.length ∧ VLe u u' ∧ ∃ (ai : Option Addr) (ci : Nat) (li : List Value) (ki : List (Value × Value)), σ = [(1000, (some b3, .box [.slice ai (numbB free x (bs.take i)).out.length ci])), (1001, (some b4, .box (arr 6 fun j => (numbB free x (bs.take i)).f (j + 1)))), (1002, (some b5, .box [.map (some bm)])), (1003, (some bm, .mp ki)), (1004, (some b6, .box [cntV b5])), (1005, (some b7, .box [visV b4 b6 b3 b7])), (1006, (none, .rwv (.slice ai (numbB free x (bs.take i)).out.length ci) 50 4 (numbB free x (bs.take i)).out.length li))] ∧ ρ = [(1, .v (.bool free)), (2, .p 1001 0), (3, .p 1004 0), (4, .p 1000 0), (5, .p 1005 0), (11, .v (.slice ad bs.length cap)), (12, .v (.int .i64 bs.length)), (13, .v (.int .i64 i))] ∧ (NumsC u' (numbB free x (bs.take i)).out li ∧ CtrM ki (cOf (numbB free x (bs.take i)).g 0))) (bs.length) ?_ ?_
 ·
  refine ⟨[(1, _), (2, _), (3, _), (4, _), (5, _), (11, _), (12, _), (13, _)], [(1000, _), (1001, _), (1002, _), (1003, _), (1004, _), (1005, _), (1006, _)], ⟨rfl, rfl, rfl, rfl, rfl, rfl, rfl, rfl, trivial⟩, ⟨rfl, rfl, rfl, rfl, rfl, rfl, rfl, trivial⟩, 0, by omega, VLe.refl _, ao, co, acc, kvs, rfl, rfl, ?_⟩
  exact ⟨hn, hM⟩
 ·
  rintro m ρ σ u' ⟨i, hi1, hle1, ai, ci, li, ki, rfl, rfl, ⟨hai, hMi⟩⟩
  refine Zd (Za (Zg (Zbn rfl rfl rfl) rfl (Zf (ρ' := [(1, _), (2, _), (3, _), (4, _), (5, _), (11, _), (12, _), (13, _), (14, _)]) ⟨rfl, rfl, rfl, rfl, rfl, rfl, rfl, rfl, rfl, trivial⟩ ?_)))
  refine Zc (Zd ?_)
  refine Zo rfl (fun hb1 => ?_) (fun hb1 => ?_)
  ·
   refine Zr (Zc (Zd (Zad (Zd ?_))))
   have hlt : i < bs.length := by have := of_decide_eq_true hb1; omega
   have h1 := h1.mono hle1
   have hT := hT.mono hle1
   obtain ⟨k, lv, inf, t, d, ti, a, line, kids, vc, vp, vl, vk, hg, hcut1, s1, s2, s3, s4, hok⟩ := (hc1.mono hle1).at hlt
   have oneAll := ((hc1.mono hle1).get i _ hg).one
   rw [hcut1] at oneAll
   have hX := numbB_le (free := free) (bs.take i) B x hB
   have hst := numbB_take (free := free) (x := x) hg
   have htg := szB_take_get hg
   have hlk := len_szB kids
   have hszk := szB_kids hg
   have hsm1 := smB_get hsm hg
   unfold smB1 at hsm1
   simp only [szb] at htg
   rw [numb1] at hst
   generalize numbB free x (bs.take i) = X at hX hst hai hMi ⊢
   have hZl := step_le (free := free) (k := k) (lv := lv) (inf := inf) (a := a) (line := line) (kids := kids) hX
   have hS := caseSec (k := k) (lv := lv) (free := free) (inf := inf) (a := a) (line := line) (kids := kids) (X := X)
   have hFT := caseFT (k := k) (lv := lv) (free := free) (inf := inf) (a := a) (line := line) (kids := kids) (X := X)
   have hE := caseEq (k := k) (lv := lv) (free := free) (inf := inf) (a := a) (line := line) (kids := kids) (X := X)
   have hN := caseNo (k := k) (lv := lv) (free := free) (inf := inf) (a := a) (line := line) (kids := kids) (X := X)
   have hXf := fun j => hX.1 j
   have hXg := fun j => hX.2.1 j
   have hXo := hX.2.2
   have t3 := s3
   have t4 := s4
   obtain ⟨lcs, ⟨lad, lcap, rfl, hl1⟩, hl2⟩ := t3
   obtain ⟨kcs, ⟨kad, kcap, rfl, hk1⟩, hk2⟩ := t4
   refine Za (Zg (Zai rfl Tryz.s23 rfl rfl (by assumption) (by first | rfl | omega) (by omega)) rfl (Zg (Zag rfl Tryz.k59 rfl (by assumption) (by omega) (by assumption) (vs := [_, _, _, _, _, _, _, _, _, _, _]) rfl rfl rfl rfl) rfl (Zv rfl rfl ?_)))
   refine Zas trivial Tryz.z59 rfl rfl rfl ?_
   refine Zv rfl rfl ?_
   refine Zm trivial rfl Tryz.k59 rfl rfl rfl (vs := [_, _, _, _, _, _, _, _, _, _, _]) rfl rfl (by first | rfl | assumption | simp [Value.oneCell', str]) (Nat.le_of_ble_eq_true rfl) rfl ?_
   refine Zf (ρ' := [(1, _), (2, _), (3, _), (4, _), (5, _), (9, _), (11, _), (12, _), (13, _)]) ⟨rfl, rfl, rfl, rfl, rfl, rfl, rfl, rfl, rfl, trivial⟩ ?_
   refine Zc (Zd ?_)
   refine wc_cutS [(10, .p 10 0)] [(10, (none, .box [str a.id, str (kindOfS k free inf a.id), str [], .slice none 0 0]))] (ρa := [(1, _), (2, _), (3, _), (4, _), (5, _), (9, _), (11, _), (12, _), (13, _)]) (σa := [(9, _), (1000, _), (1001, _), (1002, _), (1003, _), (1004, _), (1005, _), (1006, _)]) ⟨rfl, rfl, rfl, rfl, rfl, rfl, rfl, rfl, rfl, trivial⟩ ⟨rfl, rfl, rfl, rfl, rfl, rfl, rfl, rfl, trivial⟩ ?_ ?_
   ·
    refine Zbk Tryz.mixed rfl [(9, _)] ⟨rfl, trivial⟩ ?_
    refine Zal 0 rfl (by kernel_rfl) (np_cutS) (Zh rfl Tryz.f59' rfl (by decide) rfl) rfl ?_
    refine Zal 1 rfl (by kernel_rfl) (np_cutS) (Zh rfl Tryz.f39' rfl (by decide) rfl) rfl ?_
    refine Zal 2 rfl (by kernel_rfl) (np_cutS) (Zi rfl Tryz.k9 rfl rfl rfl (vs := [_]) rfl rfl rfl) rfl ?_
    refine Zal 3 rfl (by kernel_rfl) (np_cutS) (Zi rfl Tryz.k59 rfl rfl rfl (vs := [_, _, _, _, _, _, _, _, _, _, _]) rfl rfl rfl) rfl ?_
    refine Zal 4 rfl (by kernel_rfl) (np_cutS) (Zap rfl rfl) rfl ?_
    refine ra_all (is := [5, 7]) (by kernel_rfl) rfl ?_
    refine Zaz rfl rfl ?_ ?_
    ·
     refine Zaa (caps := []) ⟨rfl, trivial⟩ rfl rfl Tryz.c48 rfl (FnP.mono (kindOf_fn k lv inf t d ti a.id vc vp _ _ free _) ?_)
     rintro v u1 hle1 rfl
     refine Zal 6 rfl (by kernel_rfl) (np_cutS) (Zbf rfl Tryz.f50' Tryz.z50 (ps := [(_, _), (_, _)]) rfl (vs := [_, _, _, _]) rfl) rfl ?_
     refine Zar (i := 7) rfl rfl (by kernel_rfl) ?_
     refine Zas ⟨rfl, trivial⟩ Tryz.z50 rfl rfl rfl ?_
     refine Zar (i := 8) rfl rfl (by kernel_rfl) ?_
     refine Zm ⟨rfl, trivial⟩ rfl Tryz.k50 rfl rfl rfl (vs := [_, _, _, _]) rfl rfl (by first | rfl | assumption | simp [Value.oneCell', str]) (Nat.le_of_ble_eq_true rfl) rfl ?_
     exact cutS_endA (by kernel_rfl) ⟨rfl, rfl, rfl, rfl, rfl, rfl, rfl, rfl, rfl, rfl, trivial⟩ ⟨rfl, rfl, rfl, rfl, rfl, rfl, rfl, rfl, rfl, trivial⟩
    refine Zaz rfl rfl ?_ ?_
    ·
     refine Zas ⟨rfl, trivial⟩ Tryz.z50 rfl rfl rfl ?_
     refine Zar (i := 5) rfl rfl (by kernel_rfl) ?_
     refine Zaa (caps := []) ⟨rfl, trivial⟩ rfl rfl Tryz.c48 rfl (FnP.mono (kindOf_fn k lv inf t d ti a.id vc vp _ _ free _) ?_)
     rintro v u1 hle1 rfl
     refine Zal 6 rfl (by kernel_rfl) (np_cutS) (Zbf rfl Tryz.f50' Tryz.z50 (ps := [(_, _), (_, _)]) rfl (vs := [_, _, _, _]) rfl) rfl ?_
     refine Zar (i := 8) rfl rfl (by kernel_rfl) ?_
     refine Zm ⟨rfl, trivial⟩ rfl Tryz.k50 rfl rfl rfl (vs := [_, _, _, _]) rfl rfl (by first | rfl | assumption | simp [Value.oneCell', str]) (Nat.le_of_ble_eq_true rfl) rfl ?_
     exact cutS_endA (by kernel_rfl) ⟨rfl, rfl, rfl, rfl, rfl, rfl, rfl, rfl, rfl, rfl, trivial⟩ ⟨rfl, rfl, rfl, rfl, rfl, rfl, rfl, rfl, rfl, trivial⟩
    exact Zbw
   generalize kindOfS k free inf a.id = K at *
   generalize hYd : kindStep k inf a kids (headStep free k lv a line X) = Y at *
   refine Zc ?_
   refine Zbu (fun ρ σ uc12 => ∃ (V : Bs) (L : List Inl) (qad : Option Addr) (qcap : Nat) (k2 : List (Value × Value)), VLe u' uc12 ∧ σ = [(9, (none, .box (blkV k lv inf t d ti a.id vc vp (.slice lad line.length lcap) (.slice kad kids.length kcap)))), (10, (none, .box [str a.id, str K, str V, .slice qad L.length qcap])), (1000, (some b3, .box [.slice ai X.out.length ci])), (1001, (some b4, .box (arr 6 fun j => Y.f (j + 1)))), (1002, (some b5, .box [.map (some bm)])), (1003, (some bm, .mp k2)), (1004, (some b6, .box [cntV b5])), (1005, (some b7, .box [visV b4 b6 b3 b7])), (1006, (none, .rwv (.slice ai X.out.length ci) 50 4 X.out.length li))] ∧ ρ = [(1, .v (.bool free)), (2, .p 1001 0), (3, .p 1004 0), (4, .p 1000 0), (5, .p 1005 0), (9, .p 9 0), (10, .p 10 0), (11, .v (.slice ad bs.length cap)), (12, .v (.int .i64 bs.length)), (13, .v (.int .i64 i))] ∧ (InlS uc12 (.slice qad L.length qcap) L ∧ CtrM k2 (cOf Y.g 0) ∧ ((K = [] ∧ Y.out = X.out) ∨ (K ≠ [] ∧ Y.out = X.out ++ [⟨a.id, K, V, L⟩])))) ?_ ?_
   ·
    refine Zd (Za (Zg (Zh rfl Tryz.f50' rfl (by decide) rfl) rfl (Zg (Zi rfl Tryz.k9 rfl rfl rfl (vs := [_]) rfl rfl rfl) rfl (Zf (ρ' := [(1, _), (2, _), (3, _), (4, _), (5, _), (9, _), (10, _), (11, _), (12, _), (13, _), (25, _)]) ⟨rfl, rfl, rfl, rfl, rfl, rfl, rfl, rfl, rfl, rfl, rfl, trivial⟩ ?_))))
    refine Zc (Zad (Zd (Za (Zg (Zba rfl rfl rfl) rfl (ya rfl rfl (Zf (ρ' := [(1, _), (2, _), (3, _), (4, _), (5, _), (9, _), (10, _), (11, _), (12, _), (13, _), (25, _), (26, _)]) ⟨rfl, rfl, rfl, rfl, rfl, rfl, rfl, rfl, rfl, rfl, rfl, rfl, trivial⟩ ?_))))))
    refine Zc ?_
    refine Zo rfl (fun hb5 => ?_) (fun hb5 => ?_)
    ·
     have h5 := of_decide_eq_true hb5; have hY := hS h5
     refine Zbk Tryz.mixed rfl [(9, _)] ⟨rfl, trivial⟩ ?_
     refine Zal 0 rfl (by kernel_rfl) (Ze (Zb (Ze (Zb (Zb (Ze (Zp))))))) (Zh rfl Tryz.f59' rfl (by decide) rfl) rfl ?_
     refine Zal 1 rfl (by kernel_rfl) (Ze (Zb (Ze (Zb (Zb (Ze (Zp))))))) (Zi rfl Tryz.k3 rfl rfl rfl (vs := [_]) rfl rfl rfl) rfl ?_
     refine Zal 3 rfl (by kernel_rfl) (Ze (Zb (Ze (Zb (Zb (Ze (Zp))))))) (Zh rfl Tryz.f59' rfl (by decide) rfl) rfl ?_
     refine Zal 4 rfl (by kernel_rfl) (Ze (Zb (Ze (Zb (Zb (Ze (Zp))))))) (Zi rfl Tryz.k35 rfl rfl rfl (vs := [_]) rfl rfl rfl) rfl ?_
     refine Zar (i := 2) rfl rfl (by kernel_rfl) ?_
     refine Zaj (caps := []) (ρ' := [(1, _), (2, _), (3, _), (4, _), (5, _), (9, _), (10, _), (11, _), (12, _), (13, _), (32, _)]) [1001] [] ⟨rfl, trivial⟩ rfl rfl rfl Tryz.c49 rfl rfl ⟨rfl, rfl, rfl, rfl, rfl, rfl, rfl, rfl, rfl, rfl, rfl, trivial⟩ rfl rfl rfl (FnO.mono (next_fn X.f lv b4 (fun j ↦ Nat.le_trans (hXf j) (by omega)) _ (by first | exact hT | exact hT.mono hleC)) ?_)
     rintro v uN l1 hleN ⟨rfl, rfl⟩ -
     refine ⟨⟨fun _ h => h, trivial⟩, ?_⟩
     refine Zal 6 rfl (by kernel_rfl) (Ze (Zb (Ze (Zb (Zb (Ze (Zp))))))) (Zh rfl Tryz.f50' rfl (by decide) rfl) rfl ?_
     refine Zar (i := 5) rfl rfl (by kernel_rfl) ?_
     refine Zbm (caps := []) ⟨rfl, trivial⟩ rfl rfl Tryz.c50 rfl (FnP.mono (copyLine_fn (szI line) _ line _ (Nat.le_refl _) (by omega) hsm1.2.2.2.2.1 (by first | exact s3 | exact s3.mono hleN)) ?_)
     rintro v uC hle0 ⟨ccs, ⟨cad, ccap, rfl, hq1⟩, hq2⟩ hleC
     refine Zar (i := 7) rfl rfl (by kernel_rfl) ?_
     refine Zm ⟨rfl, trivial⟩ rfl Tryz.k9 rfl rfl rfl (vs := [_]) rfl rfl (by first | rfl | assumption | simp [Value.oneCell', str]) (Nat.le_of_ble_eq_true rfl) rfl ?_
     refine Zal 8 rfl (by kernel_rfl) (Ze (Zb (Ze (Zb (Zb (Ze (Zp))))))) (Zh rfl Tryz.f50' rfl (by decide) rfl) rfl ?_
     refine Zar (i := 9) rfl rfl (by kernel_rfl) ?_
     refine Zm ⟨rfl, trivial⟩ rfl Tryz.k35 rfl rfl rfl (vs := [_]) rfl rfl (by first | rfl | assumption | simp [Value.oneCell', str]) (Nat.le_of_ble_eq_true rfl) rfl ?_
     refine Zbl (by kernel_rfl) (ρ' := [(1, _), (2, _), (3, _), (4, _), (5, _), (9, _), (10, _), (11, _), (12, _), (13, _)]) ⟨rfl, rfl, rfl, rfl, rfl, rfl, rfl, rfl, rfl, rfl, trivial⟩ ?_
     refine Zah (Zab ?_)
     first
      | (refine ⟨[(1, _), (2, _), (3, _), (4, _), (5, _), (9, _), (10, _), (11, _), (12, _), (13, _)], [(9, _), (10, _), (1000, _), (1001, _), (1002, _), (1003, _), (1004, _), (1005, _), (1006, _)], ⟨rfl, rfl, rfl, rfl, rfl, rfl, rfl, rfl, rfl, rfl, trivial⟩, ⟨rfl, rfl, rfl, rfl, rfl, rfl, rfl, rfl, rfl, trivial⟩, _, line, cad, ccap, ki, (by first | exact hleN.trans hleC | exact hleC.trans hleN), (by rw [hY]; first | done | rfl), rfl, ?_⟩
         (rw [hY]; refine ⟨by first | exact inlS_of rfl hq1 hq2 | exact (inlS_of rfl hq1 hq2).mono hleN, hMi, .inr ⟨by rw [h5]; decide, by rw [h5]⟩⟩))
      | (refine ⟨[(1, _), (2, _), (3, _), (4, _), (5, _), (9, _), (10, _), (11, _), (12, _), (13, _)], [(9, _), (10, _), (1000, _), (1001, _), (1002, _), (1003, _), (1004, _), (1005, _), (1006, _)], ⟨rfl, rfl, rfl, rfl, rfl, rfl, rfl, rfl, rfl, rfl, trivial⟩, ⟨rfl, rfl, rfl, rfl, rfl, rfl, rfl, rfl, rfl, trivial⟩, _, capOf kids, cad, ccap, k2, (by first | exact hleN.trans hleC | exact hleC.trans hleN), (by rw [hY]; first | done | rfl), rfl, ?_⟩
         (rw [hY]; refine ⟨by first | exact inlS_of rfl hq1 hq2 | exact (inlS_of rfl hq1 hq2).mono hleN, (by rw [← hup]; exact hM2), .inr ⟨hK0, by rw [hck]⟩⟩))
      | (refine ⟨[(1, _), (2, _), (3, _), (4, _), (5, _), (9, _), (10, _), (11, _), (12, _), (13, _)], [(9, _), (10, _), (1000, _), (1001, _), (1002, _), (1003, _), (1004, _), (1005, _), (1006, _)], ⟨rfl, rfl, rfl, rfl, rfl, rfl, rfl, rfl, rfl, rfl, trivial⟩, ⟨rfl, rfl, rfl, rfl, rfl, rfl, rfl, rfl, rfl, trivial⟩, _, [], none, 0, k2, hleN, (by rw [hY]; first | done | rfl), rfl, ?_⟩
         (rw [hY]; refine ⟨nilInl _, (by rw [← hup]; exact hM2), .inr ⟨hK0, by rw [hck]⟩⟩))
      | (refine ⟨[(1, _), (2, _), (3, _), (4, _), (5, _), (9, _), (10, _), (11, _), (12, _), (13, _)], [(9, _), (10, _), (1000, _), (1001, _), (1002, _), (1003, _), (1004, _), (1005, _), (1006, _)], ⟨rfl, rfl, rfl, rfl, rfl, rfl, rfl, rfl, rfl, rfl, trivial⟩, ⟨rfl, rfl, rfl, rfl, rfl, rfl, rfl, rfl, rfl, trivial⟩, [], [], none, 0, ki, (VLe.refl _), (by rw [hY]; first | done | rfl), rfl, ?_⟩
         (rw [hY]; exact ⟨nilInl _, hMi, .inl ⟨hK0, rfl⟩⟩))
    ·
     have h5 := of_decide_eq_false hb5
     refine Zbu (fun ρ σ uci9 => VLe u' uci9 ∧ σ = [(9, (none, .box (blkV k lv inf t d ti a.id vc vp (.slice lad line.length lcap) (.slice kad kids.length kcap)))), (10, (none, .box [str a.id, str K, str [], .slice none 0 0])), (1000, (some b3, .box [.slice ai X.out.length ci])), (1001, (some b4, .box (arr 6 fun j => X.f (j + 1)))), (1002, (some b5, .box [.map (some bm)])), (1003, (some bm, .mp ki)), (1004, (some b6, .box [cntV b5])), (1005, (some b7, .box [visV b4 b6 b3 b7])), (1006, (none, .rwv (.slice ai X.out.length ci) 50 4 X.out.length li))] ∧ ρ = [(1, .v (.bool free)), (2, .p 1001 0), (3, .p 1004 0), (4, .p 1000 0), (5, .p 1005 0), (9, .p 9 0), (10, .p 10 0), (11, .v (.slice ad bs.length cap)), (12, .v (.int .i64 bs.length)), (13, .v (.int .i64 i)), (25, .v (str K)), (36, .v (.bool (decide (K = figS ∨ K = tabS))))] ∧ (u' = uci9)) ?_ ?_
     ·
      refine Zd (Za (Zg (Zba rfl rfl rfl) rfl (ya rfl rfl (Zf (ρ' := [(1, _), (2, _), (3, _), (4, _), (5, _), (9, _), (10, _), (11, _), (12, _), (13, _), (25, _), (36, _)]) ⟨rfl, rfl, rfl, rfl, rfl, rfl, rfl, rfl, rfl, rfl, rfl, rfl, trivial⟩ ?_))))
      refine Zc ?_
      refine Zo rfl (fun hb7 => ?_) (fun hb7 => ?_)
      ·
       refine Zr (Zab ?_)
       refine ⟨[(1, _), (2, _), (3, _), (4, _), (5, _), (9, _), (10, _), (11, _), (12, _), (13, _), (25, _), (36, _)], [(9, _), (10, _), (1000, _), (1001, _), (1002, _), (1003, _), (1004, _), (1005, _), (1006, _)], ⟨rfl, rfl, rfl, rfl, rfl, rfl, rfl, rfl, rfl, rfl, rfl, rfl, trivial⟩, ⟨rfl, rfl, rfl, rfl, rfl, rfl, rfl, rfl, rfl, trivial⟩, (VLe.refl _), rfl, (by first | (have h7 := of_decide_eq_true hb7; simp [h7]; done) | (have h7 := of_decide_eq_false hb7; simp [h7]; done)), ?_⟩
       rfl
      ·
       refine Za (Zg (Zba rfl rfl rfl) rfl (ya rfl rfl (Zf (ρ' := [(1, _), (2, _), (3, _), (4, _), (5, _), (9, _), (10, _), (11, _), (12, _), (13, _), (25, _), (36, _)]) ⟨rfl, rfl, rfl, rfl, rfl, rfl, rfl, rfl, rfl, rfl, rfl, rfl, trivial⟩ ?_)))
       refine Zab ?_
       refine ⟨[(1, _), (2, _), (3, _), (4, _), (5, _), (9, _), (10, _), (11, _), (12, _), (13, _), (25, _), (36, _)], [(9, _), (10, _), (1000, _), (1001, _), (1002, _), (1003, _), (1004, _), (1005, _), (1006, _)], ⟨rfl, rfl, rfl, rfl, rfl, rfl, rfl, rfl, rfl, rfl, rfl, rfl, trivial⟩, ⟨rfl, rfl, rfl, rfl, rfl, rfl, rfl, rfl, rfl, trivial⟩, (VLe.refl _), rfl, (by first | (have h7 := of_decide_eq_true hb7; simp [h7]; done) | (have h7 := of_decide_eq_false hb7; simp [h7]; done)), ?_⟩
       rfl
     ·
      rintro ρ σ uci9 ⟨hlci9, rfl, rfl, rfl⟩
      refine Zo rfl (fun hb8 => ?_) (fun hb8 => ?_)
      ·
       obtain ⟨n, hn1, hn3, hKn, hY⟩ := hFT (of_decide_eq_true hb8); have hck : cOf X.g 0 K = X.g n := (by rw [hKn]; exact cOf_kind hn1 hn3); have hup : upC (cOf X.g 0) K = cOf (setF X.g n (X.g n + 1)) 0 := (by rw [hKn]; exact cOf_up hn1 hn3); have hgn := hXg n; have hK0 : K ≠ [] := (by rcases of_decide_eq_true hb8 with h | h <;> rw [h] <;> decide)
       refine Zbk Tryz.mixed rfl [(9, _), (1004, _)] ⟨rfl, rfl, trivial⟩ ?_
       refine Zal 0 rfl (by kernel_rfl) (Ze (Zb (Ze (Zb (Zb (Ze (Zp))))))) (Zi rfl Tryz.k88 rfl rfl rfl (vs := [_]) rfl rfl rfl) rfl ?_
       refine Zal 1 rfl (by kernel_rfl) (Ze (Zb (Ze (Zb (Zb (Ze (Zp))))))) (Zh rfl Tryz.f50' rfl (by decide) rfl) rfl ?_
       refine Zal 4 rfl (by kernel_rfl) (Ze (Zb (Ze (Zb (Zb (Ze (Zp))))))) (Zh rfl Tryz.f59' rfl (by decide) rfl) rfl ?_
       refine Zal 5 rfl (by kernel_rfl) (Ze (Zb (Ze (Zb (Zb (Ze (Zp))))))) (Zi rfl Tryz.k23 rfl rfl rfl (vs := [_]) rfl rfl rfl) rfl ?_
       refine Zar (i := 2) rfl rfl (by kernel_rfl) ?_
       refine do_y (Zi rfl Tryz.k9 rfl rfl rfl (vs := [_]) rfl rfl rfl) rfl ?_
       refine Zar (i := 3) rfl rfl (by kernel_rfl) ?_
       refine Zaj (caps := [.pointer (some ⟨b5, 0, none⟩)]) (ρ' := [(1, _), (2, _), (3, _), (4, _), (5, _), (9, _), (10, _), (11, _), (12, _), (13, _), (44, _)]) [1002, 1003] [] ⟨rfl, rfl, trivial⟩ rfl rfl rfl Tryz.c45 rfl rfl ⟨rfl, rfl, rfl, rfl, rfl, rfl, rfl, rfl, rfl, rfl, rfl, trivial⟩ rfl rfl rfl (FnO.mono (count_fn b5 bm ki (cOf X.g 0) K (by rw [hck]; omega) _ (by first | exact hT | exact hT.mono hleC) hMi) ?_)
       rintro v uN l1 hleN ⟨rfl, k2, rfl, hM2⟩ -
       refine ⟨⟨fun _ h => h, fun _ h => h, trivial⟩, ?_⟩
       refine Zal 7 rfl (by kernel_rfl) (Ze (Zb (Ze (Zb (Zb (Ze (Zp))))))) (Zh rfl Tryz.f50' rfl (by decide) rfl) rfl ?_
       refine Zar (i := 6) rfl rfl (by kernel_rfl) ?_
       refine Zbm (caps := []) ⟨rfl, rfl, trivial⟩ rfl rfl Tryz.c51 rfl (FnP.mono (countCaption_fn _ kids (by omega) hsm1.2.2.2.2.2 _ (by first | exact s4 | exact s4.mono hleN)) ?_)
       rintro v uC hle0 ⟨ccs, ⟨cad, ccap, rfl, hq1⟩, hq2⟩ hleC
       refine Zar (i := 8) rfl rfl (by kernel_rfl) ?_
       refine Zm ⟨rfl, rfl, trivial⟩ rfl Tryz.k9 rfl rfl rfl (vs := [_]) rfl rfl (by first | rfl | assumption | simp [Value.oneCell', str]) (Nat.le_of_ble_eq_true rfl) rfl ?_
       refine Zal 9 rfl (by kernel_rfl) (Ze (Zb (Ze (Zb (Zb (Ze (Zp))))))) (Zh rfl Tryz.f50' rfl (by decide) rfl) rfl ?_
       refine Zar (i := 10) rfl rfl (by kernel_rfl) ?_
       refine Zm ⟨rfl, rfl, trivial⟩ rfl Tryz.k35 rfl rfl rfl (vs := [_]) rfl rfl (by first | rfl | assumption | simp [Value.oneCell', str]) (Nat.le_of_ble_eq_true rfl) rfl ?_
       refine Zbl (by kernel_rfl) (ρ' := [(1, _), (2, _), (3, _), (4, _), (5, _), (9, _), (10, _), (11, _), (12, _), (13, _)]) ⟨rfl, rfl, rfl, rfl, rfl, rfl, rfl, rfl, rfl, rfl, trivial⟩ ?_
       refine Zah (Zab ?_)
       first
        | (refine ⟨[(1, _), (2, _), (3, _), (4, _), (5, _), (9, _), (10, _), (11, _), (12, _), (13, _)], [(9, _), (10, _), (1000, _), (1001, _), (1002, _), (1003, _), (1004, _), (1005, _), (1006, _)], ⟨rfl, rfl, rfl, rfl, rfl, rfl, rfl, rfl, rfl, rfl, trivial⟩, ⟨rfl, rfl, rfl, rfl, rfl, rfl, rfl, rfl, rfl, trivial⟩, _, line, cad, ccap, ki, (by first | exact hleN.trans hleC | exact hleC.trans hleN), (by rw [hY]; first | done | rfl), rfl, ?_⟩
           (rw [hY]; refine ⟨by first | exact inlS_of rfl hq1 hq2 | exact (inlS_of rfl hq1 hq2).mono hleN, hMi, .inr ⟨by rw [h5]; decide, by rw [h5]⟩⟩))
        | (refine ⟨[(1, _), (2, _), (3, _), (4, _), (5, _), (9, _), (10, _), (11, _), (12, _), (13, _)], [(9, _), (10, _), (1000, _), (1001, _), (1002, _), (1003, _), (1004, _), (1005, _), (1006, _)], ⟨rfl, rfl, rfl, rfl, rfl, rfl, rfl, rfl, rfl, rfl, trivial⟩, ⟨rfl, rfl, rfl, rfl, rfl, rfl, rfl, rfl, rfl, trivial⟩, _, capOf kids, cad, ccap, k2, (by first | exact hleN.trans hleC | exact hleC.trans hleN), (by rw [hY]; first | done | rfl), rfl, ?_⟩
           (rw [hY]; refine ⟨by first | exact inlS_of rfl hq1 hq2 | exact (inlS_of rfl hq1 hq2).mono hleN, (by rw [← hup]; exact hM2), .inr ⟨hK0, by rw [hck]⟩⟩))
        | (refine ⟨[(1, _), (2, _), (3, _), (4, _), (5, _), (9, _), (10, _), (11, _), (12, _), (13, _)], [(9, _), (10, _), (1000, _), (1001, _), (1002, _), (1003, _), (1004, _), (1005, _), (1006, _)], ⟨rfl, rfl, rfl, rfl, rfl, rfl, rfl, rfl, rfl, rfl, trivial⟩, ⟨rfl, rfl, rfl, rfl, rfl, rfl, rfl, rfl, rfl, trivial⟩, _, [], none, 0, k2, hleN, (by rw [hY]; first | done | rfl), rfl, ?_⟩
           (rw [hY]; refine ⟨nilInl _, (by rw [← hup]; exact hM2), .inr ⟨hK0, by rw [hck]⟩⟩))
        | (refine ⟨[(1, _), (2, _), (3, _), (4, _), (5, _), (9, _), (10, _), (11, _), (12, _), (13, _)], [(9, _), (10, _), (1000, _), (1001, _), (1002, _), (1003, _), (1004, _), (1005, _), (1006, _)], ⟨rfl, rfl, rfl, rfl, rfl, rfl, rfl, rfl, rfl, rfl, trivial⟩, ⟨rfl, rfl, rfl, rfl, rfl, rfl, rfl, rfl, rfl, trivial⟩, [], [], none, 0, ki, (VLe.refl _), (by rw [hY]; first | done | rfl), rfl, ?_⟩
           (rw [hY]; exact ⟨nilInl _, hMi, .inl ⟨hK0, rfl⟩⟩))
      ·
       have h8 := of_decide_eq_false hb8
       refine Zd (Za (Zg (Zba rfl rfl rfl) rfl (ya rfl rfl (Zf (ρ' := [(1, _), (2, _), (3, _), (4, _), (5, _), (9, _), (10, _), (11, _), (12, _), (13, _), (48, _)]) ⟨rfl, rfl, rfl, rfl, rfl, rfl, rfl, rfl, rfl, rfl, rfl, trivial⟩ ?_))))
       refine Zc ?_
       refine Zo rfl (fun hb10 => ?_) (fun hb10 => ?_)
       ·
        have h10 := of_decide_eq_true hb10; have hY := hE h10; have hg3 := hXg 3; have hck : cOf X.g 0 K = X.g 3 := (by rw [h10]; rfl); have hup : upC (cOf X.g 0) K = cOf (setF X.g 3 (X.g 3 + 1)) 0 := (by rw [h10]; exact cOf_up (n := 3) (by decide) (by decide)); have hK0 : K ≠ [] := (by rw [h10]; decide)
        refine Za (Zg (Zi rfl Tryz.k88 rfl rfl rfl (vs := [_]) rfl rfl rfl) rfl (Zg (Zh rfl Tryz.f50' rfl (by decide) rfl) rfl (Zg (Zi rfl Tryz.k9 rfl rfl rfl (vs := [_]) rfl rfl rfl) rfl (Zv rfl rfl ?_))))
        refine Zaj (caps := [.pointer (some ⟨b5, 0, none⟩)]) (ρ' := [(1, _), (2, _), (3, _), (4, _), (5, _), (9, _), (10, _), (11, _), (12, _), (13, _)]) [1002, 1003] [] trivial rfl rfl rfl Tryz.c45 rfl rfl ⟨rfl, rfl, rfl, rfl, rfl, rfl, rfl, rfl, rfl, rfl, trivial⟩ rfl rfl rfl (FnO.mono (count_fn b5 bm ki (cOf X.g 0) K (by rw [hck]; omega) _ hT hMi) ?_)
        rintro v uN l1 hleN ⟨rfl, k2, rfl, hM2⟩ -
        refine ⟨⟨fun _ h => h, fun _ h => h, trivial⟩, ?_⟩
        refine Zg (Zh rfl Tryz.f50' rfl (by decide) rfl) rfl (Zv rfl rfl ?_)
        refine Zm trivial rfl Tryz.k9 rfl rfl rfl (vs := [_]) rfl rfl (by first | rfl | assumption | simp [Value.oneCell', str]) (Nat.le_of_ble_eq_true rfl) rfl ?_
        refine Zf (ρ' := [(1, _), (2, _), (3, _), (4, _), (5, _), (9, _), (10, _), (11, _), (12, _), (13, _)]) ⟨rfl, rfl, rfl, rfl, rfl, rfl, rfl, rfl, rfl, rfl, trivial⟩ ?_
        refine Zah (Zab ?_)
        first
         | (refine ⟨[(1, _), (2, _), (3, _), (4, _), (5, _), (9, _), (10, _), (11, _), (12, _), (13, _)], [(9, _), (10, _), (1000, _), (1001, _), (1002, _), (1003, _), (1004, _), (1005, _), (1006, _)], ⟨rfl, rfl, rfl, rfl, rfl, rfl, rfl, rfl, rfl, rfl, trivial⟩, ⟨rfl, rfl, rfl, rfl, rfl, rfl, rfl, rfl, rfl, trivial⟩, _, line, cad, ccap, ki, (by first | exact hleN.trans hleC | exact hleC.trans hleN), (by rw [hY]; first | done | rfl), rfl, ?_⟩
            (rw [hY]; refine ⟨by first | exact inlS_of rfl hq1 hq2 | exact (inlS_of rfl hq1 hq2).mono hleN, hMi, .inr ⟨by rw [h5]; decide, by rw [h5]⟩⟩))
         | (refine ⟨[(1, _), (2, _), (3, _), (4, _), (5, _), (9, _), (10, _), (11, _), (12, _), (13, _)], [(9, _), (10, _), (1000, _), (1001, _), (1002, _), (1003, _), (1004, _), (1005, _), (1006, _)], ⟨rfl, rfl, rfl, rfl, rfl, rfl, rfl, rfl, rfl, rfl, trivial⟩, ⟨rfl, rfl, rfl, rfl, rfl, rfl, rfl, rfl, rfl, trivial⟩, _, capOf kids, cad, ccap, k2, (by first | exact hleN.trans hleC | exact hleC.trans hleN), (by rw [hY]; first | done | rfl), rfl, ?_⟩
            (rw [hY]; refine ⟨by first | exact inlS_of rfl hq1 hq2 | exact (inlS_of rfl hq1 hq2).mono hleN, (by rw [← hup]; exact hM2), .inr ⟨hK0, by rw [hck]⟩⟩))
         | (refine ⟨[(1, _), (2, _), (3, _), (4, _), (5, _), (9, _), (10, _), (11, _), (12, _), (13, _)], [(9, _), (10, _), (1000, _), (1001, _), (1002, _), (1003, _), (1004, _), (1005, _), (1006, _)], ⟨rfl, rfl, rfl, rfl, rfl, rfl, rfl, rfl, rfl, rfl, trivial⟩, ⟨rfl, rfl, rfl, rfl, rfl, rfl, rfl, rfl, rfl, trivial⟩, _, [], none, 0, k2, hleN, (by rw [hY]; first | done | rfl), rfl, ?_⟩
            (rw [hY]; refine ⟨nilInl _, (by rw [← hup]; exact hM2), .inr ⟨hK0, by rw [hck]⟩⟩))
         | (refine ⟨[(1, _), (2, _), (3, _), (4, _), (5, _), (9, _), (10, _), (11, _), (12, _), (13, _)], [(9, _), (10, _), (1000, _), (1001, _), (1002, _), (1003, _), (1004, _), (1005, _), (1006, _)], ⟨rfl, rfl, rfl, rfl, rfl, rfl, rfl, rfl, rfl, rfl, trivial⟩, ⟨rfl, rfl, rfl, rfl, rfl, rfl, rfl, rfl, rfl, trivial⟩, [], [], none, 0, ki, (VLe.refl _), (by rw [hY]; first | done | rfl), rfl, ?_⟩
            (rw [hY]; exact ⟨nilInl _, hMi, .inl ⟨hK0, rfl⟩⟩))
       ·
        obtain ⟨hK0, hY⟩ := hN h5 (fun h => h8 (.inl h)) (fun h => h8 (.inr h)) (of_decide_eq_false hb10)
        refine Zr (Zah (Zab ?_))
        first
         | (refine ⟨[(1, _), (2, _), (3, _), (4, _), (5, _), (9, _), (10, _), (11, _), (12, _), (13, _)], [(9, _), (10, _), (1000, _), (1001, _), (1002, _), (1003, _), (1004, _), (1005, _), (1006, _)], ⟨rfl, rfl, rfl, rfl, rfl, rfl, rfl, rfl, rfl, rfl, trivial⟩, ⟨rfl, rfl, rfl, rfl, rfl, rfl, rfl, rfl, rfl, trivial⟩, _, line, cad, ccap, ki, (by first | exact hleN.trans hleC | exact hleC.trans hleN), (by rw [hY]; first | done | rfl), rfl, ?_⟩
            (rw [hY]; refine ⟨by first | exact inlS_of rfl hq1 hq2 | exact (inlS_of rfl hq1 hq2).mono hleN, hMi, .inr ⟨by rw [h5]; decide, by rw [h5]⟩⟩))
         | (refine ⟨[(1, _), (2, _), (3, _), (4, _), (5, _), (9, _), (10, _), (11, _), (12, _), (13, _)], [(9, _), (10, _), (1000, _), (1001, _), (1002, _), (1003, _), (1004, _), (1005, _), (1006, _)], ⟨rfl, rfl, rfl, rfl, rfl, rfl, rfl, rfl, rfl, rfl, trivial⟩, ⟨rfl, rfl, rfl, rfl, rfl, rfl, rfl, rfl, rfl, trivial⟩, _, capOf kids, cad, ccap, k2, (by first | exact hleN.trans hleC | exact hleC.trans hleN), (by rw [hY]; first | done | rfl), rfl, ?_⟩
            (rw [hY]; refine ⟨by first | exact inlS_of rfl hq1 hq2 | exact (inlS_of rfl hq1 hq2).mono hleN, (by rw [← hup]; exact hM2), .inr ⟨hK0, by rw [hck]⟩⟩))
         | (refine ⟨[(1, _), (2, _), (3, _), (4, _), (5, _), (9, _), (10, _), (11, _), (12, _), (13, _)], [(9, _), (10, _), (1000, _), (1001, _), (1002, _), (1003, _), (1004, _), (1005, _), (1006, _)], ⟨rfl, rfl, rfl, rfl, rfl, rfl, rfl, rfl, rfl, rfl, trivial⟩, ⟨rfl, rfl, rfl, rfl, rfl, rfl, rfl, rfl, rfl, trivial⟩, _, [], none, 0, k2, hleN, (by rw [hY]; first | done | rfl), rfl, ?_⟩
            (rw [hY]; refine ⟨nilInl _, (by rw [← hup]; exact hM2), .inr ⟨hK0, by rw [hck]⟩⟩))
         | (refine ⟨[(1, _), (2, _), (3, _), (4, _), (5, _), (9, _), (10, _), (11, _), (12, _), (13, _)], [(9, _), (10, _), (1000, _), (1001, _), (1002, _), (1003, _), (1004, _), (1005, _), (1006, _)], ⟨rfl, rfl, rfl, rfl, rfl, rfl, rfl, rfl, rfl, rfl, trivial⟩, ⟨rfl, rfl, rfl, rfl, rfl, rfl, rfl, rfl, rfl, trivial⟩, [], [], none, 0, ki, (VLe.refl _), (by rw [hY]; first | done | rfl), rfl, ?_⟩
            (rw [hY]; exact ⟨nilInl _, hMi, .inl ⟨hK0, rfl⟩⟩))
   ·
    rintro ρ σ uc12 ⟨V, L, qad, qcap, k2, hlc12, rfl, rfl, ⟨hL, hM2, hKY⟩⟩
    refine Zbu (fun ρ σ uc14 => ∃ (a5 : Option Addr) (c5 : Nat) (l5 : List Value), VLe uc12 uc14 ∧ σ = [(9, (none, .box (blkV k lv inf t d ti a.id vc vp (.slice lad line.length lcap) (.slice kad kids.length kcap)))), (1000, (some b3, .box [.slice a5 Y.out.length c5])), (1001, (some b4, .box (arr 6 fun j => Y.f (j + 1)))), (1002, (some b5, .box [.map (some bm)])), (1003, (some bm, .mp k2)), (1004, (some b6, .box [cntV b5])), (1005, (some b7, .box [visV b4 b6 b3 b7])), (1006, (none, .rwv (.slice a5 Y.out.length c5) 50 4 Y.out.length l5))] ∧ ρ = [(1, .v (.bool free)), (2, .p 1001 0), (3, .p 1004 0), (4, .p 1000 0), (5, .p 1005 0), (9, .p 9 0), (11, .v (.slice ad bs.length cap)), (12, .v (.int .i64 bs.length)), (13, .v (.int .i64 i))] ∧ (uc12 = uc14 ∧ NumsC uc12 Y.out l5)) ?_ ?_
    ·
     refine Zd (Za (Zg (Zh rfl Tryz.f50' rfl (by decide) rfl) rfl (Zg (Zi rfl Tryz.k9 rfl rfl rfl (vs := [_]) rfl rfl rfl) rfl (Zg (Zbv rfl rfl rfl) rfl (Zf (ρ' := [(1, _), (2, _), (3, _), (4, _), (5, _), (9, _), (10, _), (11, _), (12, _), (13, _), (57, _)]) ⟨rfl, rfl, rfl, rfl, rfl, rfl, rfl, rfl, rfl, rfl, rfl, trivial⟩ ?_)))))
     refine Zc ?_
     refine Zo rfl (fun hb12 => ?_) (fun hb12 => ?_)
     ·
      have h12 := of_decide_eq_true hb12; have hYo : Y.out = X.out ++ [⟨a.id, K, V, L⟩] := hKY.elim (fun h => absurd h.1 h12) (fun h => h.2)
      refine Za (Zg (Zi rfl Tryz.k47 rfl rfl rfl (vs := [_]) rfl rfl rfl) rfl (Zg (Zi rfl Tryz.k50 rfl rfl rfl (vs := [_, _, _, _]) rfl rfl rfl) rfl (Zv rfl rfl ?_)))
      refine Zak trivial Tryz.s47 Tryz.z50 (ps := [(_, _)]) rfl (xs := [_, _, _, _]) rfl rfl rfl rfl rfl rfl rfl ?_
      refine Zv rfl rfl ?_
      refine Zca 1006 trivial rfl rfl Tryz.s47 Tryz.z50 rfl rfl rfl rfl rfl rfl (by simp [Value.oneCell', str]) (by omega) (by omega) rfl rfl ?_
      intro a4 c4
      refine Zv rfl rfl ?_
      refine Zm trivial rfl Tryz.k47 rfl rfl rfl (vs := [_]) rfl rfl (by first | rfl | assumption | simp [Value.oneCell', str]) (Nat.le_of_ble_eq_true rfl) rfl ?_
      refine Zf (ρ' := [(1, _), (2, _), (3, _), (4, _), (5, _), (9, _), (11, _), (12, _), (13, _)]) ⟨rfl, rfl, rfl, rfl, rfl, rfl, rfl, rfl, rfl, trivial⟩ ?_
      refine Zab ?_
      first
       | (refine ⟨[(1, _), (2, _), (3, _), (4, _), (5, _), (9, _), (11, _), (12, _), (13, _)], [(9, _), (1000, _), (1001, _), (1002, _), (1003, _), (1004, _), (1005, _), (1006, _)], ⟨rfl, rfl, rfl, rfl, rfl, rfl, rfl, rfl, rfl, trivial⟩, ⟨rfl, rfl, rfl, rfl, rfl, rfl, rfl, rfl, trivial⟩, a4, c4, li ++ [str a.id, str K, str V, .slice qad L.length qcap], (VLe.refl _), (by rw [hYo]; first | done | rfl | (simp only [List.length_append]; rfl)), rfl, ?_⟩
          (rw [hYo]; exact ⟨rfl, (hai.mono hlc12).snoc ⟨_, rfl, hL⟩⟩))
       | (refine ⟨[(1, _), (2, _), (3, _), (4, _), (5, _), (9, _), (11, _), (12, _), (13, _)], [(9, _), (1000, _), (1001, _), (1002, _), (1003, _), (1004, _), (1005, _), (1006, _)], ⟨rfl, rfl, rfl, rfl, rfl, rfl, rfl, rfl, rfl, trivial⟩, ⟨rfl, rfl, rfl, rfl, rfl, rfl, rfl, rfl, trivial⟩, ai, ci, li, (VLe.refl _), (by rw [hYo]; first | done | rfl | (simp only [List.length_append]; rfl)), rfl, ?_⟩
          (rw [hYo]; exact ⟨rfl, hai.mono hlc12⟩))
     ·
      have h12 := of_decide_eq_false hb12; have hYo : Y.out = X.out := hKY.elim (fun h => h.2) (fun h => absurd (Decidable.of_not_not h12) h.1)
      refine Zr (Zab ?_)
      first
       | (refine ⟨[(1, _), (2, _), (3, _), (4, _), (5, _), (9, _), (11, _), (12, _), (13, _)], [(9, _), (1000, _), (1001, _), (1002, _), (1003, _), (1004, _), (1005, _), (1006, _)], ⟨rfl, rfl, rfl, rfl, rfl, rfl, rfl, rfl, rfl, trivial⟩, ⟨rfl, rfl, rfl, rfl, rfl, rfl, rfl, rfl, trivial⟩, a4, c4, li ++ [str a.id, str K, str V, .slice qad L.length qcap], (VLe.refl _), (by rw [hYo]; first | done | rfl | (simp only [List.length_append]; rfl)), rfl, ?_⟩
          (rw [hYo]; exact ⟨rfl, (hai.mono hlc12).snoc ⟨_, rfl, hL⟩⟩))
       | (refine ⟨[(1, _), (2, _), (3, _), (4, _), (5, _), (9, _), (11, _), (12, _), (13, _)], [(9, _), (1000, _), (1001, _), (1002, _), (1003, _), (1004, _), (1005, _), (1006, _)], ⟨rfl, rfl, rfl, rfl, rfl, rfl, rfl, rfl, rfl, trivial⟩, ⟨rfl, rfl, rfl, rfl, rfl, rfl, rfl, rfl, trivial⟩, ai, ci, li, (VLe.refl _), (by rw [hYo]; first | done | rfl | (simp only [List.length_append]; rfl)), rfl, ?_⟩
          (rw [hYo]; exact ⟨rfl, hai.mono hlc12⟩))
    ·
     rintro ρ σ uc14 ⟨a5, c5, l5, hlc14, rfl, rfl, ⟨rfl, ha5⟩⟩
     obtain ⟨q, hqf⟩ : ∃ q, q = free := ⟨_, rfl⟩
     have hqe : some (SV.v (.bool free)) = some (SV.v (.bool q)) := by rw [hqf]
     have hkf : kidsFree free k = (q && decide (k = 13)) := by rw [hqf]; unfold kidsFree; cases free <;> simp
     have h1 := h1.mono hlc12
     refine Za (Zg (Zi rfl Tryz.k89 rfl rfl rfl (vs := [_]) rfl rfl rfl) rfl (Zg (Zh rfl Tryz.f59' rfl (by decide) rfl) rfl (Zg (Zi rfl Tryz.k23 rfl rfl rfl (vs := [_]) rfl rfl rfl) rfl (ym rfl rfl (Zg (Zap rfl hqe) rfl ?_)))))
     rcases Bool.eq_false_or_eq_true (q) with hg14_4 | hg14_4
     ·
      simp only [hg14_4]
      refine Zk rfl rfl (Zg (Zh rfl Tryz.f59' rfl (by decide) rfl) rfl (Zk rfl rfl (Zg (Zi rfl Tryz.k3 rfl rfl rfl (vs := [_]) rfl rfl rfl) rfl (Zk rfl rfl (Zg (Zaw rfl rfl rfl) rfl (Zg (Zl rfl rfl rfl) rfl (Zv rfl rfl ?_)))))))
      refine Zaj (caps := [.pointer (some ⟨b4, 0, none⟩), .pointer (some ⟨b6, 0, none⟩), .pointer (some ⟨b3, 0, none⟩), .pointer (some ⟨b7, 0, none⟩)]) (ρ' := [(1, _), (2, _), (3, _), (4, _), (5, _), (11, _), (12, _), (13, _)]) [1000, 1001, 1002, 1003, 1004, 1005, 1006] [] trivial rfl rfl rfl Tryz.c47 rfl rfl ⟨rfl, rfl, rfl, rfl, rfl, rfl, rfl, rfl, trivial⟩ rfl rfl rfl (FnO.mono (ih (szB kids) (by omega) _ kids _ Y a5 c5 l5 k2 (B + szB (List.take i bs) + 1) uc12 (hT.mono hlc12) (Nat.le_refl _) (by omega) hZl hsm1.2.2.2.2.2 (s4.mono hlc12) ha5 hM2) ?_)
      rintro v uR l1 hleR ⟨rfl, a6, c6, l6, k6, rfl, h6, hM6⟩ -
      refine ⟨⟨fun _ h => h, fun _ h => h, fun _ h => h, fun _ h => h, fun _ h => h, fun _ h => h, fun _ h => h, trivial⟩, ?_⟩
      refine Zf (ρ' := [(1, _), (2, _), (3, _), (4, _), (5, _), (11, _), (12, _), (13, _)]) ⟨rfl, rfl, rfl, rfl, rfl, rfl, rfl, rfl, trivial⟩ ?_
      refine Zah (Zc (Za (Zg (Zav rfl rfl rfl (Zs (by omega))) rfl ?_)))
      refine ym rfl rfl (Zf (ρ' := [(1, _), (2, _), (3, _), (4, _), (5, _), (11, _), (12, _), (13, _)]) ⟨rfl, rfl, rfl, rfl, rfl, rfl, rfl, rfl, trivial⟩ ?_)
      refine Zab ?_
      refine ⟨m - 1, [(1, _), (2, _), (3, _), (4, _), (5, _), (11, _), (12, _), (13, _)], [(1000, _), (1001, _), (1002, _), (1003, _), (1004, _), (1005, _), (1006, _)], by omega, ⟨rfl, rfl, rfl, rfl, rfl, rfl, rfl, rfl, trivial⟩, ⟨rfl, rfl, rfl, rfl, rfl, rfl, rfl, trivial⟩, i + 1, by omega, (hle1.trans (hlc12.trans hleR)), a6, c6, l6, k6, (by simp only [hst, hkf, hg14_4, Bool.true_and, Bool.false_and]), (by first | rfl | simp), ?_⟩
      simp only [hst, hkf, hg14_4, Bool.true_and, Bool.false_and]
      exact ⟨h6, hM6⟩
     ·
      simp only [hg14_4]
      iterate 3 refine Zt rfl rfl rfl rfl ?_
      refine Zg (Zn rfl rfl rfl) rfl (Zv rfl rfl ?_)
      refine Zaj (caps := [.pointer (some ⟨b4, 0, none⟩), .pointer (some ⟨b6, 0, none⟩), .pointer (some ⟨b3, 0, none⟩), .pointer (some ⟨b7, 0, none⟩)]) (ρ' := [(1, _), (2, _), (3, _), (4, _), (5, _), (11, _), (12, _), (13, _)]) [1000, 1001, 1002, 1003, 1004, 1005, 1006] [] trivial rfl rfl rfl Tryz.c47 rfl rfl ⟨rfl, rfl, rfl, rfl, rfl, rfl, rfl, rfl, trivial⟩ rfl rfl rfl (FnO.mono (ih (szB kids) (by omega) _ kids _ Y a5 c5 l5 k2 (B + szB (List.take i bs) + 1) uc12 (hT.mono hlc12) (Nat.le_refl _) (by omega) hZl hsm1.2.2.2.2.2 (s4.mono hlc12) ha5 hM2) ?_)
      rintro v uR l1 hleR ⟨rfl, a6, c6, l6, k6, rfl, h6, hM6⟩ -
      refine ⟨⟨fun _ h => h, fun _ h => h, fun _ h => h, fun _ h => h, fun _ h => h, fun _ h => h, fun _ h => h, trivial⟩, ?_⟩
      refine Zf (ρ' := [(1, _), (2, _), (3, _), (4, _), (5, _), (11, _), (12, _), (13, _)]) ⟨rfl, rfl, rfl, rfl, rfl, rfl, rfl, rfl, trivial⟩ ?_
      refine Zah (Zc (Za (Zg (Zav rfl rfl rfl (Zs (by omega))) rfl ?_)))
      refine ym rfl rfl (Zf (ρ' := [(1, _), (2, _), (3, _), (4, _), (5, _), (11, _), (12, _), (13, _)]) ⟨rfl, rfl, rfl, rfl, rfl, rfl, rfl, rfl, trivial⟩ ?_)
      refine Zab ?_
      refine ⟨m - 1, [(1, _), (2, _), (3, _), (4, _), (5, _), (11, _), (12, _), (13, _)], [(1000, _), (1001, _), (1002, _), (1003, _), (1004, _), (1005, _), (1006, _)], by omega, ⟨rfl, rfl, rfl, rfl, rfl, rfl, rfl, rfl, trivial⟩, ⟨rfl, rfl, rfl, rfl, rfl, rfl, rfl, trivial⟩, i + 1, by omega, (hle1.trans (hlc12.trans hleR)), a6, c6, l6, k6, (by simp only [hst, hkf, hg14_4, Bool.true_and, Bool.false_and]), (by first | rfl | simp), ?_⟩
      simp only [hst, hkf, hg14_4, Bool.true_and, Bool.false_and]
      exact ⟨h6, hM6⟩
  ·
   refine Zax ?_
   refine Zq (Zq ?_)
   refine Zaf ?_
   refine finO0n [1000, 1001, 1002, 1003, 1004, 1005, 1006]  rfl rfl ?_
   have hge := of_decide_eq_false hb1
   rw [List.take_of_length_le (by omega)] at hai hMi ⊢
   exact ⟨rfl, _, _, _, _, rfl, hai, hMi⟩
theorem ctrM_nil : CtrM [] (cOf cs0.g 0) := by
 refine ⟨rfl, fun s => ?_⟩
 have : cOf cs0.g 0 s = 0 := by unfold cOf cs0; simp
 rw [this, mget_nil]; rfl
set_option maxHeartbeats 4000000 in
theorem numbers_fn (vm vb : Value) (bs : List Blk) (u : View) (hT : TabU u) (hbig : szB bs ≤ 9000) (hsm : smB bs) (ha : BlkS u vb bs) :
  FnP Tryz.prog 17 [.agg #[vm, vb]] u fun r u' => NumS u' r (numsOf bs) := by
 have hle := numbB_le (free := true) bs 0 cs0 cs0_le
 have hlo := hle.2.2
 have hnl := notesOf_len bs
 have ha2 := ha
 obtain ⟨cs, ⟨ad, cap, rfl, h1⟩, hc1⟩ := ha2
 refine FnP.intro [.tmp 2] Tryz.func17 rfl rfl rfl ?_
 intro w0 D hw0
 refine Zd (Za (Zv rfl rfl ?_))
 refine Zbx trivial rfl (cs := [_, _]) rfl rfl rfl rfl ?_
 refine ya rfl rfl (Zf (ρ' := [(1, _)]) ⟨rfl, trivial⟩ ?_)
 refine Zc (Zd (Za (Zv rfl rfl ?_)))
 refine Zas trivial Tryz.z47 rfl rfl rfl ?_
 refine Zf (ρ' := [(1, _), (3, _)]) ⟨rfl, rfl, trivial⟩ ?_
 refine Zc (Zd (Za (Zv rfl rfl ?_)))
 refine Zas trivial Tryz.z85 rfl rfl rfl ?_
 refine Zf (ρ' := [(1, _), (3, _), (4, _)]) ⟨rfl, rfl, rfl, trivial⟩ ?_
 refine Zc (Zd (Za (Zv rfl rfl ?_)))
 refine Zcl trivial rfl rfl rfl ?_
 refine Zv rfl rfl ?_
 refine Zas trivial Tryz.z86 rfl rfl rfl ?_
 refine Zbz 10 rfl ⟨10, 0, .inr rfl⟩ ?_
 intro b10
 refine Zv rfl rfl ?_
 refine Zm trivial rfl Tryz.k86 rfl rfl rfl (vs := [_]) rfl rfl (by first | rfl | assumption | simp [Value.oneCell', str]) (Nat.le_of_ble_eq_true rfl) rfl ?_
 refine Zf (ρ' := [(1, _), (3, _), (4, _), (5, _)]) ⟨rfl, rfl, rfl, rfl, trivial⟩ ?_
 refine Zc (Zd (Za ?_))
 refine Zbz 5 rfl ⟨5, _, .inl rfl⟩ ?_
 intro b5
 refine Zg (Zbt rfl rfl rfl) rfl (Zv rfl rfl ?_)
 refine Zas trivial Tryz.z88 rfl rfl rfl ?_
 refine Zv rfl rfl ?_
 refine Zm trivial rfl Tryz.k88 rfl rfl rfl (vs := [_]) rfl rfl (by first | rfl | assumption | simp [Value.oneCell', str]) (Nat.le_of_ble_eq_true rfl) rfl ?_
 refine Zf (ρ' := [(1, _), (3, _), (4, _), (6, _)]) ⟨rfl, rfl, rfl, rfl, trivial⟩ ?_
 refine Zc (Zd (Za (Zv rfl rfl ?_)))
 refine Zas trivial Tryz.z89 rfl rfl rfl ?_
 refine Zf (ρ' := [(1, _), (3, _), (4, _), (6, _), (7, _)]) ⟨rfl, rfl, rfl, rfl, rfl, trivial⟩ ?_
 refine Zc (Zd (Za ?_))
 refine Zbz 4 rfl ⟨4, _, .inl rfl⟩ ?_
 intro b4
 refine Zbz 6 rfl ⟨6, _, .inl rfl⟩ ?_
 intro b6
 refine Zbz 3 rfl ⟨3, _, .inl rfl⟩ ?_
 intro b3
 refine Zbz 7 rfl ⟨7, _, .inl rfl⟩ ?_
 intro b7
 refine Zg (Zbt rfl rfl rfl) rfl (Zv rfl rfl ?_)
 refine Zm trivial rfl Tryz.k89 rfl rfl rfl (vs := [_]) rfl rfl (by first | rfl | assumption | simp [Value.oneCell', str]) (Nat.le_of_ble_eq_true rfl) rfl ?_
 refine Zf (ρ' := [(1, _), (3, _), (6, _), (7, _)]) ⟨rfl, rfl, rfl, rfl, trivial⟩ ?_
 refine Zc (Zd (Za (Zg (Zi rfl Tryz.k89 rfl rfl rfl (vs := [_]) rfl rfl rfl) rfl (Zg (Zh rfl Tryz.f25' rfl (by decide) rfl) rfl (Zg (Zi rfl Tryz.k23 rfl rfl rfl (vs := [_]) rfl rfl rfl) rfl ?_)))))
 refine rl_nilW 600 50 4 rfl rfl ?_
 refine Zv rfl rfl ?_
 refine Zaj (caps := [.pointer (some ⟨b4, 0, none⟩), .pointer (some ⟨b6, 0, none⟩), .pointer (some ⟨b3, 0, none⟩), .pointer (some ⟨b7, 0, none⟩)]) (ρ' := [(1, _), (3, _), (6, _)]) [3, 4, 5, 10, 6, 7, 600] [] trivial rfl rfl rfl Tryz.c47 rfl rfl ⟨rfl, rfl, rfl, trivial⟩ rfl rfl rfl (FnO.mono (visN_fn b3 b4 b5 b10 b6 b7 (szB bs) _ bs true cs0 none 0 [] [] 0 u hT (Nat.le_refl _) (by omega) cs0_le hsm ha rfl ctrM_nil) ?_)
 rintro v uV l1 hleV ⟨rfl, a1, c1, l1, k1, rfl, hn1, hM1⟩ -
 refine ⟨⟨fun _ h => h, fun _ h => h, fun _ h => h, fun _ h => h, fun _ h => h, fun _ h => h, fun _ h => h, trivial⟩, ?_⟩
 refine Zf (ρ' := [(1, _), (3, _), (6, _)]) ⟨rfl, rfl, rfl, trivial⟩ ?_
 refine Zc (Zd (Zd (Za (Zg (Zi rfl Tryz.k25 rfl rfl rfl (vs := [_, _]) rfl rfl rfl) rfl (Zv rfl rfl ?_)))))
 refine Zbm (caps := []) trivial rfl rfl Tryz.c52 rfl (FnP.mono (notes_fn vm _ bs uV (by omega) hsm (ha.mono hleV)) ?_)
 rintro v uN hle0 ⟨nad, ncap, rfl, hns⟩ hleN
 have hTN := (hT.mono hleV).mono hleN
 refine Zg (Zaq rfl rfl Tryz.s37 rfl) rfl (ym rfl rfl (Zf (ρ' := [(3, _), (6, _), (18, _), (19, _), (20, _)]) ⟨rfl, rfl, rfl, rfl, rfl, trivial⟩ ?_))
 refine Zc (Zad ?_)
 refine Zbc (fun m ρ σ u' => ∃ i : Nat, i + m = (notesOf bs).length ∧ VLe uN u' ∧ ∃ (ai : Option Addr) (ci : Nat) (li : List Value) (ki : List (Value × Value)), σ = [(3, (some b3, .box [.slice ai ((numbB true cs0 bs).out.length + i) ci])), (5, (some b5, .box [.map (some b10)])), (6, (some b6, .box [cntV b5])), (10, (some b10, .mp ki)), (600, (none, .rwv (.slice ai ((numbB true cs0 bs).out.length + i) ci) 50 4 ((numbB true cs0 bs).out.length + i) li))] ∧ ρ = [(3, .p 3 0), (6, .p 6 0), (18, .v (.slice nad (notesOf bs).length ncap)), (19, .v (.int .i64 (notesOf bs).length)), (20, .v (.int .i64 i))] ∧ (NumsC u' ((numbB true cs0 bs).out ++ noteNumsTo (notesOf bs) i) li ∧ CtrM ki (cOf (numbB true cs0 bs).g i))) ((notesOf bs).length) ?_ ?_
 ·
  refine ⟨[(3, _), (6, _), (18, _), (19, _), (20, _)], [(3, _), (5, _), (6, _), (10, _), (600, _)], ⟨rfl, rfl, rfl, rfl, rfl, trivial⟩, ⟨rfl, rfl, rfl, rfl, rfl, trivial⟩, 0, by omega, VLe.refl _, a1, c1, l1, k1, (by first | rfl | simp), (by first | rfl | (simp only [List.cons.injEq, Prod.mk.injEq, SV.v.injEq, Value.int.injEq, true_and, and_true]; omega) | simp), ?_⟩
  exact ⟨by simpa [noteNumsTo] using hn1.mono hleN, hM1⟩
 ·
  rintro m ρ σ u' ⟨i, hi9, hle9, ai, ci, li, ki, rfl, rfl, ⟨hli, hMi⟩⟩
  refine Zd (Za (Zg (Zbn rfl rfl rfl) rfl (Zf (ρ' := [(3, _), (6, _), (18, _), (19, _), (20, _), (21, _)]) ⟨rfl, rfl, rfl, rfl, rfl, rfl, trivial⟩ ?_)))
  refine Zc (Zd ?_)
  refine Zo rfl (fun hb9 => ?_) (fun hb9 => ?_)
  ·
   refine Zr (Zc (Zd (Zad (Zd ?_))))
   have hlt : i < (notesOf bs).length := by have := of_decide_eq_true hb9; omega
   have hns := hns.mono hle9
   have hTN := hTN.mono hle9
   have hg := List.getElem?_eq_getElem hlt
   have hcut := cut_strsC hg
   refine Za (Zg (Zai rfl Tryz.s37 rfl rfl (by assumption) (by first | rfl | omega) (by omega)) rfl (Zg (Zag rfl Tryz.k9 rfl (by assumption) (by omega) (by assumption) (vs := [_]) rfl rfl rfl rfl) rfl (ya rfl rfl (Zf (ρ' := [(3, _), (6, _), (9, _), (18, _), (19, _), (20, _)]) ⟨rfl, rfl, rfl, rfl, rfl, rfl, trivial⟩ ?_))))
   refine Zc ?_
   refine Zbk Tryz.mixed rfl [(6, _)] ⟨rfl, trivial⟩ ?_
   refine Zal 1 rfl (by kernel_rfl) (Ze (Zb (Zb (Ze (Zb (Zan)))))) (Zap rfl rfl) rfl ?_
   refine Zal 2 rfl (by kernel_rfl) (Ze (Zb (Zb (Ze (Zb (Zan)))))) (Zi rfl Tryz.k88 rfl rfl rfl (vs := [_]) rfl rfl rfl) rfl ?_
   refine ra_all (is := [0, 3]) (by kernel_rfl) rfl ?_
   refine Zaz rfl rfl ?_ ?_
   ·
    refine do_y (Zi rfl Tryz.k47 rfl rfl rfl (vs := [_]) rfl rfl rfl) rfl ?_
    refine Zar (i := 3) rfl rfl (by kernel_rfl) ?_
    refine Zaj (caps := [.pointer (some ⟨b5, 0, none⟩)]) (ρ' := [(3, _), (6, _), (18, _), (19, _), (20, _), (24, _), (25, _)]) [5, 10] [] ⟨rfl, trivial⟩ rfl rfl rfl Tryz.c45 rfl rfl ⟨rfl, rfl, rfl, rfl, rfl, rfl, rfl, trivial⟩ rfl rfl rfl (FnO.mono (count_fn b5 b10 ki (cOf (numbB true cs0 bs).g i) notS (by rw [cOf_note]; omega) u' hTN hMi) ?_)
    rintro v uC l1 hleC ⟨rfl, k2, rfl, hM2⟩ -
    refine ⟨⟨fun _ h => h, fun _ h => h, trivial⟩, ?_⟩
    refine Zal 4 rfl (by kernel_rfl) (Ze (Zb (Zb (Ze (Zb (Zan)))))) (Zbf rfl Tryz.f50' Tryz.z50 (ps := [(_, _), (_, _), (_, _)]) rfl (vs := [_, _, _, _]) rfl) rfl ?_
    refine Zar (i := 5) rfl rfl (by kernel_rfl) ?_
    refine Zak ⟨rfl, trivial⟩ Tryz.s47 Tryz.z50 (ps := [(_, _)]) rfl (xs := [_, _, _, _]) rfl rfl rfl rfl rfl rfl rfl ?_
    refine Zar (i := 6) rfl rfl (by kernel_rfl) ?_
    refine Zca 600 ⟨rfl, trivial⟩ rfl rfl Tryz.s47 Tryz.z50 rfl rfl rfl rfl rfl rfl (by simp [Value.oneCell', str]) (by omega) (by omega) rfl rfl ?_
    intro a2 c2
    refine Zar (i := 7) rfl rfl (by kernel_rfl) ?_
    refine Zm ⟨rfl, trivial⟩ rfl Tryz.k47 rfl rfl rfl (vs := [_]) rfl rfl (by first | rfl | assumption | simp [Value.oneCell', str]) (Nat.le_of_ble_eq_true rfl) rfl ?_
    refine Zbl (by kernel_rfl) (ρ' := [(3, _), (6, _), (18, _), (19, _), (20, _)]) ⟨rfl, rfl, rfl, rfl, rfl, trivial⟩ ?_
    refine Zah (Zc (Za (Zg (Zav rfl rfl rfl (Zs (by omega))) rfl ?_)))
    refine ym rfl rfl (Zf (ρ' := [(3, _), (6, _), (18, _), (19, _), (20, _)]) ⟨rfl, rfl, rfl, rfl, rfl, trivial⟩ ?_)
    refine Zab ?_
    refine ⟨m - 1, [(3, _), (6, _), (18, _), (19, _), (20, _)], [(3, _), (5, _), (6, _), (10, _), (600, _)], by omega, ⟨rfl, rfl, rfl, rfl, rfl, trivial⟩, ⟨rfl, rfl, rfl, rfl, rfl, trivial⟩, i + 1, by omega, (hle9.trans hleC), a2, c2, li ++ [str (notesOf bs)[i], str notS, str (dec (i + 1)), .slice none 0 0], k2, (by first | rfl | simp), (by first | rfl | (simp only [List.cons.injEq, Prod.mk.injEq, SV.v.injEq, Value.int.injEq, true_and, and_true]; omega) | simp), ?_⟩
    refine ⟨?_, by rw [← cOf_upNote]; exact hM2⟩
    rw [noteNumsTo_succ, ← List.append_assoc]
    refine (hli.mono hleC).snoc ⟨_, ?_, nilInl _⟩
    simp [hlt]
   refine Zaz rfl rfl ?_ ?_
   ·
    refine Zaj (caps := [.pointer (some ⟨b5, 0, none⟩)]) (ρ' := [(3, _), (6, _), (18, _), (19, _), (20, _), (25, _)]) [5, 10] [] ⟨rfl, trivial⟩ rfl rfl rfl Tryz.c45 rfl rfl ⟨rfl, rfl, rfl, rfl, rfl, rfl, trivial⟩ rfl rfl rfl (FnO.mono (count_fn b5 b10 ki (cOf (numbB true cs0 bs).g i) notS (by rw [cOf_note]; omega) u' hTN hMi) ?_)
    rintro v uC l1 hleC ⟨rfl, k2, rfl, hM2⟩ -
    refine ⟨⟨fun _ h => h, fun _ h => h, trivial⟩, ?_⟩
    refine Zal 4 rfl (by kernel_rfl) (Ze (Zb (Zb (Ze (Zb (Zan)))))) (Zbf rfl Tryz.f50' Tryz.z50 (ps := [(_, _), (_, _), (_, _)]) rfl (vs := [_, _, _, _]) rfl) rfl ?_
    refine ra_all (is := [0, 5]) (by kernel_rfl) rfl ?_
    refine Zaz rfl rfl ?_ ?_
    ·
     refine do_y (Zi rfl Tryz.k47 rfl rfl rfl (vs := [_]) rfl rfl rfl) rfl ?_
     refine Zar (i := 5) rfl rfl (by kernel_rfl) ?_
     refine Zak ⟨rfl, trivial⟩ Tryz.s47 Tryz.z50 (ps := [(_, _)]) rfl (xs := [_, _, _, _]) rfl rfl rfl rfl rfl rfl rfl ?_
     refine Zar (i := 6) rfl rfl (by kernel_rfl) ?_
     refine Zca 600 ⟨rfl, trivial⟩ rfl rfl Tryz.s47 Tryz.z50 rfl rfl rfl rfl rfl rfl (by simp [Value.oneCell', str]) (by omega) (by omega) rfl rfl ?_
     intro a2 c2
     refine Zar (i := 7) rfl rfl (by kernel_rfl) ?_
     refine Zm ⟨rfl, trivial⟩ rfl Tryz.k47 rfl rfl rfl (vs := [_]) rfl rfl (by first | rfl | assumption | simp [Value.oneCell', str]) (Nat.le_of_ble_eq_true rfl) rfl ?_
     refine Zbl (by kernel_rfl) (ρ' := [(3, _), (6, _), (18, _), (19, _), (20, _)]) ⟨rfl, rfl, rfl, rfl, rfl, trivial⟩ ?_
     refine Zah (Zc (Za (Zg (Zav rfl rfl rfl (Zs (by omega))) rfl ?_)))
     refine ym rfl rfl (Zf (ρ' := [(3, _), (6, _), (18, _), (19, _), (20, _)]) ⟨rfl, rfl, rfl, rfl, rfl, trivial⟩ ?_)
     refine Zab ?_
     refine ⟨m - 1, [(3, _), (6, _), (18, _), (19, _), (20, _)], [(3, _), (5, _), (6, _), (10, _), (600, _)], by omega, ⟨rfl, rfl, rfl, rfl, rfl, trivial⟩, ⟨rfl, rfl, rfl, rfl, rfl, trivial⟩, i + 1, by omega, (hle9.trans hleC), a2, c2, li ++ [str (notesOf bs)[i], str notS, str (dec (i + 1)), .slice none 0 0], k2, (by first | rfl | simp), (by first | rfl | (simp only [List.cons.injEq, Prod.mk.injEq, SV.v.injEq, Value.int.injEq, true_and, and_true]; omega) | simp), ?_⟩
     refine ⟨?_, by rw [← cOf_upNote]; exact hM2⟩
     rw [noteNumsTo_succ, ← List.append_assoc]
     refine (hli.mono hleC).snoc ⟨_, ?_, nilInl _⟩
     simp [hlt]
    refine Zaz rfl rfl ?_ ?_
    ·
     refine Zak ⟨rfl, trivial⟩ Tryz.s47 Tryz.z50 (ps := [(_, _)]) rfl (xs := [_, _, _, _]) rfl rfl rfl rfl rfl rfl rfl ?_
     refine Zar (i := 0) rfl rfl (by kernel_rfl) ?_
     refine do_y (Zi rfl Tryz.k47 rfl rfl rfl (vs := [_]) rfl rfl rfl) rfl ?_
     refine Zar (i := 6) rfl rfl (by kernel_rfl) ?_
     refine Zca 600 ⟨rfl, trivial⟩ rfl rfl Tryz.s47 Tryz.z50 rfl rfl rfl rfl rfl rfl (by simp [Value.oneCell', str]) (by omega) (by omega) rfl rfl ?_
     intro a2 c2
     refine Zar (i := 7) rfl rfl (by kernel_rfl) ?_
     refine Zm ⟨rfl, trivial⟩ rfl Tryz.k47 rfl rfl rfl (vs := [_]) rfl rfl (by first | rfl | assumption | simp [Value.oneCell', str]) (Nat.le_of_ble_eq_true rfl) rfl ?_
     refine Zbl (by kernel_rfl) (ρ' := [(3, _), (6, _), (18, _), (19, _), (20, _)]) ⟨rfl, rfl, rfl, rfl, rfl, trivial⟩ ?_
     refine Zah (Zc (Za (Zg (Zav rfl rfl rfl (Zs (by omega))) rfl ?_)))
     refine ym rfl rfl (Zf (ρ' := [(3, _), (6, _), (18, _), (19, _), (20, _)]) ⟨rfl, rfl, rfl, rfl, rfl, trivial⟩ ?_)
     refine Zab ?_
     refine ⟨m - 1, [(3, _), (6, _), (18, _), (19, _), (20, _)], [(3, _), (5, _), (6, _), (10, _), (600, _)], by omega, ⟨rfl, rfl, rfl, rfl, rfl, trivial⟩, ⟨rfl, rfl, rfl, rfl, rfl, trivial⟩, i + 1, by omega, (hle9.trans hleC), a2, c2, li ++ [str (notesOf bs)[i], str notS, str (dec (i + 1)), .slice none 0 0], k2, (by first | rfl | simp), (by first | rfl | (simp only [List.cons.injEq, Prod.mk.injEq, SV.v.injEq, Value.int.injEq, true_and, and_true]; omega) | simp), ?_⟩
     refine ⟨?_, by rw [← cOf_upNote]; exact hM2⟩
     rw [noteNumsTo_succ, ← List.append_assoc]
     refine (hli.mono hleC).snoc ⟨_, ?_, nilInl _⟩
     simp [hlt]
    exact Zbw
   exact Zbw
  ·
   refine Zax ?_
   refine Zq (Zq ?_)
   refine Zaf ?_
   refine Zc (Zd (Za (Zg (Zi rfl Tryz.k47 rfl rfl rfl (vs := [_]) rfl rfl rfl) rfl ?_)))
   refine rl_freezeW 600 rfl ?_
   intro uF hleF hF
   refine ya rfl rfl (Zf (ρ' := [(2, _)]) ⟨rfl, trivial⟩ ?_)
   refine Zc (Zw (Zbe (.tmp rfl) ?_))
   have hge := of_decide_eq_false hb9
   have hin : i = (notesOf bs).length := by omega
   subst hin
   refine ⟨li, ?_, hli.mono hleF⟩
   rw [show (numsOf bs).length = (numbB true cs0 bs).out.length + (notesOf bs).length by simp [numsOf, noteNums]]
   exact hF
def enS : Bs := [101, 110]
def deS : Bs := [100, 101]
def frS : Bs := [102, 114]
def esS : Bs := [101, 115]
def pageS : Bs := [112, 97, 103, 101]
def rowW (lang : Bs) : Bs × Bs × Bs :=
 if lang = deS then ([65, 98, 115, 99, 104, 110, 105, 116, 116], [65, 98, 98, 105, 108, 100, 117, 110, 103], [84, 97, 98, 101, 108, 108, 101])
 else if lang = frS then ([83, 101, 99, 116, 105, 111, 110], [70, 105, 103, 117, 114, 101], [84, 97, 98, 108, 101, 97, 117])
 else if lang = esS then ([83, 101, 99, 99, 105, 195, 179, 110], [70, 105, 103, 117, 114, 97], [84, 97, 98, 108, 97])
 else ([83, 101, 99, 116, 105, 111, 110], [70, 105, 103, 117, 114, 101], [84, 97, 98, 108, 101])
def wordOf (lang kind : Bs) : Bs := if kind = secS then (rowW lang).1 else if kind = figS then (rowW lang).2.1 else (rowW lang).2.2
theorem wordOf_len (lang kind : Bs) : (wordOf lang kind).length ≤ 20 := by
 unfold wordOf rowW
 repeat' split
 all_goals decide
def numFor (ns : List DNum) (s : Bs) : Option DNum := ns.find? fun n => decide (n.id = s ∧ n.kind ≠ notS)
theorem numFor_snoc (ns : List DNum) (n : DNum) (s : Bs) : numFor (ns ++ [n]) s = (numFor ns s).or (if n.id = s ∧ n.kind ≠ notS then some n else none) := by
 unfold numFor
 rw [List.find?_append, List.find?_singleton]
 simp
def headEv : Ev → List Inl
 | .inl b => if kindB b = 2 then lineOf b else []
 | .inr x => kidsI x
def headOf (l : List Ev) (s : Bs) : Option Ev := l.find? fun e => decide (evId e = s)
theorem headOf_snoc (l : List Ev) (e : Ev) (s : Bs) : headOf (l ++ [e]) s = (headOf l s).or (if evId e = s then some e else none) := by
 unfold headOf
 rw [List.find?_append, List.find?_singleton]
 simp
def hlineOf (l : List Ev) (s : Bs) : List Inl := match headOf l s with
 | some e => headEv e
 | none => []
def heldT (bs : List Blk) (s : Bs) : Bs := if plain (hlineOf (evB bs) s) = [] then s else plain (hlineOf (evB bs) s)
def numT (lang : Bs) (n : DNum) : Bs := if n.kind = equS then [40] ++ n.value ++ [41] else wordOf lang n.kind ++ [32] ++ n.value
def refTx (ns : List DNum) (bs : List Blk) (lang s : Bs) : Bs := match numFor ns s with
 | some n => if s = [] then heldT bs s else numT lang n
 | none => heldT bs s
def placeOf (ps : List (Bs × Bs)) (s : Bs) : Option (Bs × Bs) := ps.find? fun p => decide (p.1 = s)
theorem placeOf_snoc (l : List (Bs × Bs)) (e : Bs × Bs) (s : Bs) : placeOf (l ++ [e]) s = (placeOf l s).or (if e.1 = s then some e else none) := by
 unfold placeOf
 rw [List.find?_append, List.find?_singleton]
 simp
def placeV (ps : List (Bs × Bs)) (s : Bs) : Bs := match placeOf ps s with
 | some p => p.2
 | none => []
def placeT (ps : List (Bs × Bs)) (s : Bs) : Bs := if placeV ps s = [] then [63] else placeV ps s
def refT (ns : List DNum) (bs : List Blk) (lang : Bs) (ps : List (Bs × Bs)) (t ti : Bs) : Bs := if ti = pageS then placeT ps t else refTx ns bs lang t
def NumM (u : View) (kvs : List (Value × Value)) (ns : List DNum) : Prop := kvs.all (fun p => isKey .string p.1) = true ∧ ∀ s, match numFor ns s with
 | none => mget kvs (str s) = none
 | some n => ∃ cs, mget kvs (str s) = some (.agg cs.toArray) ∧ NumC u n cs
theorem NumM.mono {u u' : View} {kvs : List (Value × Value)} {L : List DNum} (h : NumM u kvs L) (hu : VLe u u') : NumM u' kvs L := by
 refine ⟨h.1, fun s => ?_⟩
 have := h.2 s
 cases hd : numFor L s with
 | none => rw [hd] at this; exact this
 | some b => rw [hd] at this; obtain ⟨cs, h1, h2⟩ := this; exact ⟨cs, h1, h2.mono hu⟩
abbrev zeroN : List Value := [str [], str [], str [], .slice none 0 0]
theorem NumM.val {u : View} {kvs : List (Value × Value)} {ns : List DNum} (h : NumM u kvs ns) (s : Bs) : ∃ (n : DNum) (vl : Value), (mget kvs (str s)).getD (.agg zeroN.toArray) = .agg [str n.id, str n.kind, str n.value, vl].toArray ∧ (mget kvs (str s)).isSome = (numFor ns s).isSome ∧ (∀ n', numFor ns s = some n' → n' = n) ∧ (numFor ns s = none → n.value = []) ∧ Value.oneCell' vl = true := by
 have := h.2 s
 cases hd : numFor ns s with
 | none =>
  rw [hd] at this
  rw [this]
  exact ⟨⟨[], [], [], []⟩, _, rfl, rfl, (fun _ h => by cases h), fun _ => rfl, rfl⟩
 | some n =>
  rw [hd] at this
  obtain ⟨cs, h1, h2⟩ := this
  rw [h1]
  obtain ⟨vl, rfl, hvl⟩ := h2
  exact ⟨n, vl, rfl, rfl, (fun n' h => by cases h; rfl), (fun h => by cases h), by obtain ⟨_, ⟨_, _, rfl, _⟩, _⟩ := hvl; rfl⟩
theorem NumM.add {u : View} {kvs : List (Value × Value)} {ns : List DNum} {n : DNum} {cs : List Value} (h : NumM u kvs ns) (hn : NumC u n cs) (h1 : numFor ns n.id = none) (h2 : n.kind ≠ notS) : NumM u (mset kvs (str n.id) (.agg cs.toArray)) (ns ++ [n]) := by
 refine ⟨SKeys.mset h.1, fun s => ?_⟩
 rw [numFor_snoc, mget_mset _ _ _ _ h.1]
 by_cases e : s = n.id
 ·
  subst e
  rw [if_pos rfl, h1, Option.none_or, if_pos ⟨rfl, h2⟩]
  exact ⟨cs, rfl, hn⟩
 ·
  rw [if_neg e, if_neg (fun h => e h.1.symm), Option.or_none]
  exact h.2 s
theorem NumM.skip {u : View} {kvs : List (Value × Value)} {ns : List DNum} {n : DNum} (h : NumM u kvs ns) (h1 : ¬ ((numFor ns n.id).isSome = false ∧ n.kind ≠ notS)) : NumM u kvs (ns ++ [n]) := by
 refine ⟨h.1, fun s => ?_⟩
 rw [numFor_snoc]
 by_cases e : n.id = s ∧ n.kind ≠ notS
 ·
  obtain ⟨rfl, e2⟩ := e
  cases hd : numFor ns n.id with
  | none => rw [hd] at h1; exact absurd ⟨rfl, e2⟩ h1
  | some b => rw [Option.some_or, ← hd]; exact h.2 n.id
 ·
  rw [if_neg e, Option.or_none]; exact h.2 s
def HdM (u : View) (kvs : List (Value × Value)) (l : List Ev) : Prop := kvs.all (fun p => isKey .string p.1) = true ∧ ∀ s, match headOf l s with
 | none => mget kvs (str s) = none
 | some e => ∃ v, mget kvs (str s) = some v ∧ InlS u v (headEv e)
theorem HdM.mono {u u' : View} {kvs : List (Value × Value)} {l : List Ev} (h : HdM u kvs l) (hu : VLe u u') : HdM u' kvs l := by
 refine ⟨h.1, fun s => ?_⟩
 have := h.2 s
 cases hd : headOf l s with
 | none => rw [hd] at this; exact this
 | some b => rw [hd] at this; obtain ⟨cs, h1, h2⟩ := this; exact ⟨cs, h1, h2.mono hu⟩
theorem nilInls (u : View) : InlS u (.slice none 0 0) [] := ⟨[], ⟨none, 0, rfl, rfl, Nat.le_refl _, by unfold maxLen; omega, fun h => absurd rfl h⟩, InlsC.nil⟩
theorem HdM.val {u : View} {kvs : List (Value × Value)} {l : List Ev} (h : HdM u kvs l) (s : Bs) : ∃ ad n cap, (mget kvs (str s)).getD (.slice none 0 0) = .slice ad n cap ∧ InlS u (.slice ad n cap) (hlineOf l s) ∧ (mget kvs (str s)).isSome = (headOf l s).isSome := by
 have := h.2 s
 unfold hlineOf
 cases hd : headOf l s with
 | none => rw [hd] at this; rw [this]; exact ⟨_, _, _, rfl, nilInls u, rfl⟩
 | some e =>
  rw [hd] at this
  obtain ⟨v, h1, h2⟩ := this
  have h3 := h2
  obtain ⟨_, ⟨ad, cap, rfl, _⟩, _⟩ := h3
  rw [h1]
  exact ⟨ad, _, cap, rfl, h2, rfl⟩
theorem HdM.add {u : View} {kvs : List (Value × Value)} {l : List Ev} {e : Ev} {v : Value} (h : HdM u kvs l) (hv : InlS u v (headEv e)) (h1 : headOf l (evId e) = none) : HdM u (mset kvs (str (evId e)) v) (l ++ [e]) := by
 refine ⟨SKeys.mset h.1, fun s => ?_⟩
 rw [headOf_snoc, mget_mset _ _ _ _ h.1]
 by_cases q : s = evId e
 ·
  subst q
  rw [if_pos rfl, h1, Option.none_or, if_pos rfl]
  exact ⟨v, rfl, hv⟩
 ·
  rw [if_neg q, if_neg (fun h => q h.symm), Option.or_none]
  exact h.2 s
theorem HdM.skip {u : View} {kvs : List (Value × Value)} {l : List Ev} {e : Ev} (h : HdM u kvs l) (h1 : (headOf l (evId e)).isSome = true) : HdM u kvs (l ++ [e]) := by
 refine ⟨h.1, fun s => ?_⟩
 rw [headOf_snoc]
 by_cases q : evId e = s
 ·
  subst q
  cases hd : headOf l (evId e) with
  | none => rw [hd] at h1; cases h1
  | some b => rw [Option.some_or, ← hd]; exact h.2 _
 ·
  rw [if_neg q, Option.or_none]; exact h.2 s
def PlM (kvs : List (Value × Value)) (ps : List (Bs × Bs)) : Prop := kvs.all (fun p => isKey .string p.1) = true ∧ ∀ s, mget kvs (str s) = (placeOf ps s).map fun p => str p.2
theorem PlM.val {kvs : List (Value × Value)} {ps : List (Bs × Bs)} (h : PlM kvs ps) (s : Bs) : (mget kvs (str s)).getD (str []) = str (placeV ps s) ∧ (mget kvs (str s)).isSome = (placeOf ps s).isSome := by
 rw [h.2 s]
 unfold placeV
 cases placeOf ps s <;> exact ⟨rfl, rfl⟩
theorem PlM.add {kvs : List (Value × Value)} {ps : List (Bs × Bs)} {p : Bs × Bs} (h : PlM kvs ps) (h1 : placeOf ps p.1 = none) : PlM (mset kvs (str p.1) (str p.2)) (ps ++ [p]) := by
 refine ⟨SKeys.mset h.1, fun s => ?_⟩
 rw [placeOf_snoc, mget_mset _ _ _ _ h.1]
 by_cases q : s = p.1
 ·
  subst q
  rw [if_pos rfl, h1, Option.none_or, if_pos rfl]; rfl
 ·
  rw [if_neg q, if_neg (fun h => q h.symm), Option.or_none]
  exact h.2 s
theorem PlM.skip {kvs : List (Value × Value)} {ps : List (Bs × Bs)} {p : Bs × Bs} (h : PlM kvs ps) (h1 : (placeOf ps p.1).isSome = true) : PlM kvs (ps ++ [p]) := by
 refine ⟨h.1, fun s => ?_⟩
 rw [placeOf_snoc]
 by_cases q : p.1 = s
 ·
  subst q
  cases hd : placeOf ps p.1 with
  | none => rw [hd] at h1; cases h1
  | some b => rw [Option.some_or, ← hd]; exact h.2 _
 ·
  rw [if_neg q, Option.or_none]; exact h.2 s
def TxM (kvs : List (Value × Value)) (g : Bs → Bs) : Prop := kvs.all (fun p => isKey .string p.1) = true ∧ ∀ s, mget kvs (str s) = none ∨ mget kvs (str s) = some (str (g s))
theorem TxM.add {kvs : List (Value × Value)} {g : Bs → Bs} (h : TxM kvs g) (t : Bs) : TxM (mset kvs (str t) (str (g t))) g := by
 refine ⟨SKeys.mset h.1, fun s => ?_⟩
 rw [mget_mset _ _ _ _ h.1]
 by_cases q : s = t
 ·
  subst q; rw [if_pos rfl]; exact .inr rfl
 ·
  rw [if_neg q]; exact h.2 s
theorem TxM.val {kvs : List (Value × Value)} {g : Bs → Bs} (h : TxM kvs g) (s : Bs) : ∃ (w : Bs) (ok : Bool), (mget kvs (str s)).getD (str []) = str w ∧ (mget kvs (str s)).isSome = ok ∧ (ok = true → w = g s) := by
 rcases h.2 s with h | h
 ·
  rw [h]; exact ⟨[], false, rfl, rfl, fun h => by cases h⟩
 ·
  rw [h]; exact ⟨g s, true, rfl, rfl, fun _ => rfl⟩
theorem smI_mem : ∀ (n : Nat) (xs : List Inl), szI xs ≤ n → smI xs → ∀ x ∈ deep xs, smI1 x ∧ sz1 x ≤ szI xs := by
 intro n
 induction n with
 | zero =>
  intro xs hn _ x hx
  cases xs with
  | nil => simp [deep] at hx
  | cons y ys => cases y; simp [szI, sz1] at hn
 | succ n ih =>
  intro xs hn hs x hx
  cases xs with
  | nil => simp [deep] at hx
  | cons y ys =>
   unfold smI at hs
   have h0 := hs.1
   obtain ⟨k, t, d, ti, a, args, cites, kids⟩ := y
   simp only [szI, sz1] at hn ⊢
   rw [deep, deep1, List.cons_append] at hx
   rcases List.mem_cons.1 hx with rfl | hx
   ·
    exact ⟨h0, by simp only [sz1]; omega⟩
   ·
    have h1 := h0
    unfold smI1 at h1
    rcases List.mem_append.1 hx with hx | hx
    ·
     obtain ⟨q1, q2⟩ := ih kids (by omega) h1.2 x hx
     exact ⟨q1, by omega⟩
    ·
     obtain ⟨q1, q2⟩ := ih ys (by omega) hs.2 x hx
     exact ⟨q1, by omega⟩
mutual
theorem txI1_of : ∀ x : Inl, smI1 x → txI1 100000 x
 | .mk k t d ti a args cites kids, h => by
  unfold smI1 NodeSm at h
  unfold txI1
  exact ⟨by omega, by omega, by omega, txI_of kids h.2⟩
theorem txI_of : ∀ xs : List Inl, smI xs → txI 100000 xs
 | [], _ => by unfold txI; trivial
 | x :: xs, h => by
  unfold smI at h
  unfold txI
  exact ⟨txI1_of x h.1, txI_of xs h.2⟩
end
theorem evL_mem {L : List Blk} {e : Ev} (h : e ∈ evL L) : ∃ b ∈ L, e = .inl b ∨ ∃ x ∈ deep (lineOf b), e = .inr x := by
 unfold evL at h
 obtain ⟨b, hb, he⟩ := List.mem_flatMap.1 h
 refine ⟨b, hb, ?_⟩
 rcases List.mem_cons.1 he with rfl | he
 ·
  exact .inl rfl
 ·
  unfold evI at he
  obtain ⟨x, hx, rfl⟩ := List.mem_map.1 he
  exact .inr ⟨x, hx, rfl⟩
theorem hline_ok (bs : List Blk) (hs : smB bs) (s : Bs) : smI (hlineOf (evB bs) s) ∧ szI (hlineOf (evB bs) s) ≤ szB bs := by
 unfold hlineOf
 cases hd : headOf (evB bs) s with
 | none => exact ⟨by unfold smI; trivial, by simp [szI]⟩
 | some e =>
  have hm : e ∈ evB bs := List.mem_of_find?_eq_some hd
  obtain ⟨b, hb, he⟩ := evL_mem hm
  obtain ⟨h1, h2⟩ := smB_mem _ bs (Nat.le_refl _) hs b hb
  obtain ⟨k, lv, inf, t, d, ti, a, line, kids⟩ := b
  unfold smB1 at h1
  have hl : smI line := h1.2.2.2.2.1
  rcases he with rfl | ⟨x, hx, rfl⟩
  ·
   simp only [headEv]
   split
   ·
    exact ⟨hl, h2⟩
   ·
    exact ⟨by unfold smI; trivial, by simp [szI]⟩
  ·
   obtain ⟨q1, q2⟩ := smI_mem _ line (Nat.le_refl _) hl x hx
   obtain ⟨k2, t2, d2, ti2, a2, args2, cites2, kids2⟩ := x
   unfold smI1 at q1
   simp only [headEv, kidsI]
   simp only [sz1] at q2
   simp only [lineOf] at h2
   exact ⟨q1.2, by omega⟩
theorem heldT_len (bs : List Blk) (hs : smB bs) (hbig : szB bs ≤ 1000) (s : Bs) (hl : s.length ≤ 100000) : (heldT bs s).length ≤ 200000000 := by
 obtain ⟨h1, h2⟩ := hline_ok bs hs s
 have := plain_len 100000 (by omega) _ (txI_of _ h1)
 unfold heldT
 split <;> omega
set_option linter.unusedSimpArgs false
set_option linter.unusedVariables false
set_option maxRecDepth 4000
theorem word_fn (lang kind : Bs) (u : View) : FnP Tryz.prog 83 [str lang, str kind] u fun r _ => r = str (wordOf lang kind) := by
 refine FnP.intro [.tmp 4] Tryz.func83 rfl rfl rfl ?_
 intro w0 D hw0
 refine Zd (Za (ya rfl rfl (Zf (ρ' := [(0, _), (1, _)]) ⟨rfl, rfl, trivial⟩ ?_)))
 refine Zc (Zd (Za (Zg (y_buildA rfl Tryz.a153 Tryz.z153 (ps := [(_, _), (_, _), (_, _)]) rfl (vs := [_, _, _]) rfl) rfl ?_)))
 refine Zv rfl rfl ?_
 refine Zas trivial Tryz.z153 rfl rfl rfl ?_
 refine Zv rfl rfl ?_
 refine Zm trivial rfl Tryz.k153 rfl rfl rfl (vs := [_, _, _]) rfl rfl (by first | rfl | assumption | simp [Value.oneCell', str]) (Nat.le_of_ble_eq_true rfl) rfl ?_
 refine Zf (ρ' := [(0, _), (1, _), (5, _)]) ⟨rfl, rfl, rfl, trivial⟩ ?_
 refine Zc ?_
 refine Zbu (fun ρ σ uc9 => ∃ (a b c : Bs), VLe u uc9 ∧ σ = [(5, (none, .box [str a, str b, str c]))] ∧ ρ = [(1, .v (str kind)), (5, .p 5 0)] ∧ (u = uc9 ∧ rowW lang = (a, b, c))) ?_ ?_
 ·
  refine Zd (Za (ym rfl rfl (Zf (ρ' := [(1, _), (5, _), (7, _)]) ⟨rfl, rfl, rfl, trivial⟩ ?_)))
  refine Zc (Zad (Zd (Za (Zg (Zba rfl rfl rfl) rfl (ya rfl rfl (Zf (ρ' := [(1, _), (5, _), (7, _), (8, _)]) ⟨rfl, rfl, rfl, rfl, trivial⟩ ?_))))))
  refine Zc ?_
  refine Zo rfl (fun hb3 => ?_) (fun hb3 => ?_)
  ·
   have h3 : lang = deS := of_decide_eq_true hb3
   refine Za (Zg (y_buildA rfl Tryz.a153 Tryz.z153 (ps := [(_, _), (_, _), (_, _)]) rfl (vs := [_, _, _]) rfl) rfl ?_)
   refine Zv rfl rfl ?_
   refine Zm trivial rfl Tryz.k153 rfl rfl rfl (vs := [_, _, _]) rfl rfl (by first | rfl | assumption | simp [Value.oneCell', str]) (Nat.le_of_ble_eq_true rfl) rfl ?_
   refine Zf (ρ' := [(1, _), (5, _)]) ⟨rfl, rfl, trivial⟩ ?_
   refine Zah (Zab ?_)
   first
    | (refine ⟨[(1, _), (5, _)], [(5, _)], ⟨rfl, rfl, trivial⟩, ⟨rfl, trivial⟩, _, _, _, (VLe.refl _), (by first | rfl | simp), (by first | rfl | (simp only [List.cons.injEq, Prod.mk.injEq, SV.v.injEq, Value.int.injEq, true_and, and_true]; omega) | simp), ?_⟩
       (refine ⟨rfl, ?_⟩; unfold rowW; rw [if_pos h3]))
    | (refine ⟨[(1, _), (5, _)], [(5, _)], ⟨rfl, rfl, trivial⟩, ⟨rfl, trivial⟩, _, _, _, (VLe.refl _), (by first | rfl | simp), (by first | rfl | (simp only [List.cons.injEq, Prod.mk.injEq, SV.v.injEq, Value.int.injEq, true_and, and_true]; omega) | simp), ?_⟩
       (refine ⟨rfl, ?_⟩; unfold rowW; rw [if_neg h3, if_pos h5]))
    | (refine ⟨[(1, _), (5, _)], [(5, _)], ⟨rfl, rfl, trivial⟩, ⟨rfl, trivial⟩, _, _, _, (VLe.refl _), (by first | rfl | simp), (by first | rfl | (simp only [List.cons.injEq, Prod.mk.injEq, SV.v.injEq, Value.int.injEq, true_and, and_true]; omega) | simp), ?_⟩
       (refine ⟨rfl, ?_⟩; unfold rowW; rw [if_neg h3, if_neg h5, if_pos h7]))
    | (refine ⟨[(1, _), (5, _)], [(5, _)], ⟨rfl, rfl, trivial⟩, ⟨rfl, trivial⟩, _, _, _, (VLe.refl _), (by first | rfl | simp), (by first | rfl | (simp only [List.cons.injEq, Prod.mk.injEq, SV.v.injEq, Value.int.injEq, true_and, and_true]; omega) | simp), ?_⟩
       (refine ⟨rfl, ?_⟩; unfold rowW; rw [if_neg h3, if_neg h5, if_neg h7]))
  ·
   have h3 : ¬ lang = deS := of_decide_eq_false hb3
   refine Zd (Za (Zg (Zba rfl rfl rfl) rfl (ya rfl rfl (Zf (ρ' := [(1, _), (5, _), (7, _), (11, _)]) ⟨rfl, rfl, rfl, rfl, trivial⟩ ?_))))
   refine Zc ?_
   refine Zo rfl (fun hb5 => ?_) (fun hb5 => ?_)
   ·
    have h5 : lang = frS := of_decide_eq_true hb5
    refine Za (Zg (y_buildA rfl Tryz.a153 Tryz.z153 (ps := [(_, _), (_, _), (_, _)]) rfl (vs := [_, _, _]) rfl) rfl ?_)
    refine Zv rfl rfl ?_
    refine Zm trivial rfl Tryz.k153 rfl rfl rfl (vs := [_, _, _]) rfl rfl (by first | rfl | assumption | simp [Value.oneCell', str]) (Nat.le_of_ble_eq_true rfl) rfl ?_
    refine Zf (ρ' := [(1, _), (5, _)]) ⟨rfl, rfl, trivial⟩ ?_
    refine Zah (Zab ?_)
    first
     | (refine ⟨[(1, _), (5, _)], [(5, _)], ⟨rfl, rfl, trivial⟩, ⟨rfl, trivial⟩, _, _, _, (VLe.refl _), (by first | rfl | simp), (by first | rfl | (simp only [List.cons.injEq, Prod.mk.injEq, SV.v.injEq, Value.int.injEq, true_and, and_true]; omega) | simp), ?_⟩
        (refine ⟨rfl, ?_⟩; unfold rowW; rw [if_pos h3]))
     | (refine ⟨[(1, _), (5, _)], [(5, _)], ⟨rfl, rfl, trivial⟩, ⟨rfl, trivial⟩, _, _, _, (VLe.refl _), (by first | rfl | simp), (by first | rfl | (simp only [List.cons.injEq, Prod.mk.injEq, SV.v.injEq, Value.int.injEq, true_and, and_true]; omega) | simp), ?_⟩
        (refine ⟨rfl, ?_⟩; unfold rowW; rw [if_neg h3, if_pos h5]))
     | (refine ⟨[(1, _), (5, _)], [(5, _)], ⟨rfl, rfl, trivial⟩, ⟨rfl, trivial⟩, _, _, _, (VLe.refl _), (by first | rfl | simp), (by first | rfl | (simp only [List.cons.injEq, Prod.mk.injEq, SV.v.injEq, Value.int.injEq, true_and, and_true]; omega) | simp), ?_⟩
        (refine ⟨rfl, ?_⟩; unfold rowW; rw [if_neg h3, if_neg h5, if_pos h7]))
     | (refine ⟨[(1, _), (5, _)], [(5, _)], ⟨rfl, rfl, trivial⟩, ⟨rfl, trivial⟩, _, _, _, (VLe.refl _), (by first | rfl | simp), (by first | rfl | (simp only [List.cons.injEq, Prod.mk.injEq, SV.v.injEq, Value.int.injEq, true_and, and_true]; omega) | simp), ?_⟩
        (refine ⟨rfl, ?_⟩; unfold rowW; rw [if_neg h3, if_neg h5, if_neg h7]))
   ·
    have h5 : ¬ lang = frS := of_decide_eq_false hb5
    refine Zd (Za (Zg (Zba rfl rfl rfl) rfl (ya rfl rfl (Zf (ρ' := [(1, _), (5, _), (14, _)]) ⟨rfl, rfl, rfl, trivial⟩ ?_))))
    refine Zc ?_
    refine Zo rfl (fun hb7 => ?_) (fun hb7 => ?_)
    ·
     have h7 : lang = esS := of_decide_eq_true hb7
     refine Za (Zg (y_buildA rfl Tryz.a153 Tryz.z153 (ps := [(_, _), (_, _), (_, _)]) rfl (vs := [_, _, _]) rfl) rfl ?_)
     refine Zv rfl rfl ?_
     refine Zm trivial rfl Tryz.k153 rfl rfl rfl (vs := [_, _, _]) rfl rfl (by first | rfl | assumption | simp [Value.oneCell', str]) (Nat.le_of_ble_eq_true rfl) rfl ?_
     refine Zf (ρ' := [(1, _), (5, _)]) ⟨rfl, rfl, trivial⟩ ?_
     refine Zah (Zab ?_)
     first
      | (refine ⟨[(1, _), (5, _)], [(5, _)], ⟨rfl, rfl, trivial⟩, ⟨rfl, trivial⟩, _, _, _, (VLe.refl _), (by first | rfl | simp), (by first | rfl | (simp only [List.cons.injEq, Prod.mk.injEq, SV.v.injEq, Value.int.injEq, true_and, and_true]; omega) | simp), ?_⟩
         (refine ⟨rfl, ?_⟩; unfold rowW; rw [if_pos h3]))
      | (refine ⟨[(1, _), (5, _)], [(5, _)], ⟨rfl, rfl, trivial⟩, ⟨rfl, trivial⟩, _, _, _, (VLe.refl _), (by first | rfl | simp), (by first | rfl | (simp only [List.cons.injEq, Prod.mk.injEq, SV.v.injEq, Value.int.injEq, true_and, and_true]; omega) | simp), ?_⟩
         (refine ⟨rfl, ?_⟩; unfold rowW; rw [if_neg h3, if_pos h5]))
      | (refine ⟨[(1, _), (5, _)], [(5, _)], ⟨rfl, rfl, trivial⟩, ⟨rfl, trivial⟩, _, _, _, (VLe.refl _), (by first | rfl | simp), (by first | rfl | (simp only [List.cons.injEq, Prod.mk.injEq, SV.v.injEq, Value.int.injEq, true_and, and_true]; omega) | simp), ?_⟩
         (refine ⟨rfl, ?_⟩; unfold rowW; rw [if_neg h3, if_neg h5, if_pos h7]))
      | (refine ⟨[(1, _), (5, _)], [(5, _)], ⟨rfl, rfl, trivial⟩, ⟨rfl, trivial⟩, _, _, _, (VLe.refl _), (by first | rfl | simp), (by first | rfl | (simp only [List.cons.injEq, Prod.mk.injEq, SV.v.injEq, Value.int.injEq, true_and, and_true]; omega) | simp), ?_⟩
         (refine ⟨rfl, ?_⟩; unfold rowW; rw [if_neg h3, if_neg h5, if_neg h7]))
    ·
     have h7 : ¬ lang = esS := of_decide_eq_false hb7
     refine Zr (Zah (Zab ?_))
     first
      | (refine ⟨[(1, _), (5, _)], [(5, _)], ⟨rfl, rfl, trivial⟩, ⟨rfl, trivial⟩, _, _, _, (VLe.refl _), (by first | rfl | simp), (by first | rfl | (simp only [List.cons.injEq, Prod.mk.injEq, SV.v.injEq, Value.int.injEq, true_and, and_true]; omega) | simp), ?_⟩
         (refine ⟨rfl, ?_⟩; unfold rowW; rw [if_pos h3]))
      | (refine ⟨[(1, _), (5, _)], [(5, _)], ⟨rfl, rfl, trivial⟩, ⟨rfl, trivial⟩, _, _, _, (VLe.refl _), (by first | rfl | simp), (by first | rfl | (simp only [List.cons.injEq, Prod.mk.injEq, SV.v.injEq, Value.int.injEq, true_and, and_true]; omega) | simp), ?_⟩
         (refine ⟨rfl, ?_⟩; unfold rowW; rw [if_neg h3, if_pos h5]))
      | (refine ⟨[(1, _), (5, _)], [(5, _)], ⟨rfl, rfl, trivial⟩, ⟨rfl, trivial⟩, _, _, _, (VLe.refl _), (by first | rfl | simp), (by first | rfl | (simp only [List.cons.injEq, Prod.mk.injEq, SV.v.injEq, Value.int.injEq, true_and, and_true]; omega) | simp), ?_⟩
         (refine ⟨rfl, ?_⟩; unfold rowW; rw [if_neg h3, if_neg h5, if_pos h7]))
      | (refine ⟨[(1, _), (5, _)], [(5, _)], ⟨rfl, rfl, trivial⟩, ⟨rfl, trivial⟩, _, _, _, (VLe.refl _), (by first | rfl | simp), (by first | rfl | (simp only [List.cons.injEq, Prod.mk.injEq, SV.v.injEq, Value.int.injEq, true_and, and_true]; omega) | simp), ?_⟩
         (refine ⟨rfl, ?_⟩; unfold rowW; rw [if_neg h3, if_neg h5, if_neg h7]))
 ·
  rintro ρ σ uc9 ⟨a, b, c, hlc9, rfl, rfl, ⟨rfl, hrow⟩⟩
  refine Zd (Zd (Za (ym rfl rfl (Zf (ρ' := [(5, _), (17, _)]) ⟨rfl, rfl, trivial⟩ ?_))))
  refine Zc (Zad (Zd (Za (Zg (Zba rfl rfl rfl) rfl (ya rfl rfl (Zf (ρ' := [(5, _), (17, _), (18, _)]) ⟨rfl, rfl, rfl, trivial⟩ ?_))))))
  refine Zc ?_
  refine Zo rfl (fun hb10 => ?_) (fun hb10 => ?_)
  ·
   have h10 : kind = secS := of_decide_eq_true hb10
   refine Zd (Za (Zg (Zcq rfl Tryz.a153 rfl rfl (j := 0) rfl (by decide)) rfl (Zg (Zi rfl Tryz.k9 rfl rfl rfl (vs := [_]) rfl rfl rfl) rfl (ya rfl rfl (Zf (ρ' := [(4, _)]) ⟨rfl, trivial⟩ ?_)))))
   refine Zc (Zw (Zu (Zj (Zbe (.tmp rfl) ?_))))
   unfold wordOf; rw [if_pos h10, hrow]
  ·
   have h10 : ¬ kind = secS := of_decide_eq_false hb10
   refine Zd (Za (Zg (Zba rfl rfl rfl) rfl (ya rfl rfl (Zf (ρ' := [(5, _), (22, _)]) ⟨rfl, rfl, trivial⟩ ?_))))
   refine Zc ?_
   refine Zo rfl (fun hb12 => ?_) (fun hb12 => ?_)
   ·
    have h12 : kind = figS := of_decide_eq_true hb12
    refine Zd (Za (Zg (Zcq rfl Tryz.a153 rfl rfl (j := 1) rfl (by decide)) rfl (Zg (Zi rfl Tryz.k9 rfl rfl rfl (vs := [_]) rfl rfl rfl) rfl (ya rfl rfl (Zf (ρ' := [(4, _)]) ⟨rfl, trivial⟩ ?_)))))
    refine Zc (Zw (Zu (Zj (Zbe (.tmp rfl) ?_))))
    unfold wordOf; rw [if_neg h10, if_pos h12, hrow]
   ·
    have h12 : ¬ kind = figS := of_decide_eq_false hb12
    refine Zr (Zah (Zc (Zd (Za (Zg (Zcq rfl Tryz.a153 rfl rfl (j := 2) rfl (by decide)) rfl (Zg (Zi rfl Tryz.k9 rfl rfl rfl (vs := [_]) rfl rfl rfl) rfl (ya rfl rfl (Zf (ρ' := [(4, _)]) ⟨rfl, trivial⟩ ?_))))))))
    refine Zc (Zw (Zbe (.tmp rfl) ?_))
    unfold wordOf; rw [if_neg h10, if_neg h12, hrow]
def ShV (u : View) (v : Value) (lang : Bs) (ns : List DNum) (ps : List (Bs × Bs)) (bs : List Blk) (m4 : Nat) : Prop := ∃ b m1 m2 m3 k1 k2 k3 T fr, v = .pointer (some ⟨b, 0, none⟩) ∧ u b = some (.cells [str lang, .map (some m1), .map (some m2), .map (some m3), .map (some m4)].toArray T fr) ∧
 MapV u m1 k1 ∧ NumM u k1 ns ∧ MapV u m2 k2 ∧ HdM u k2 (evB bs) ∧ MapV u m3 k3 ∧ PlM k3 ps
theorem ShV.mono {u u' : View} {v : Value} {lang : Bs} {ns : List DNum} {ps : List (Bs × Bs)} {bs : List Blk} {m4 : Nat} (h : ShV u v lang ns ps bs m4) (hu : VLe u u') : ShV u' v lang ns ps bs m4 := by
 obtain ⟨b, m1, m2, m3, k1, k2, k3, T, fr, h1, h2, h3, h4, h5, h6, h7, h8⟩ := h
 exact ⟨b, m1, m2, m3, k1, k2, k3, T, fr, h1, hu _ _ h2, h3.mono hu, h4.mono hu, h5.mono hu, h6.mono hu, h7.mono hu, h8⟩
def NsOk (ns : List DNum) : Prop := ns.length ≤ 100000 ∧ ∀ n ∈ ns, n.id.length ≤ 100000 ∧ n.kind.length ≤ 100000 ∧ n.value.length ≤ 100000
set_option maxHeartbeats 2000000 in
theorem text_fn (v : Value) (lang id : Bs) (ns : List DNum) (ps : List (Bs × Bs)) (bs : List Blk) (m4 : Nat) (kt : List (Value × Value)) (hsm : smB bs) (hbig : szB bs ≤ 1000) (hid : id.length ≤ 100000) (hns : NsOk ns) (u : View) (hV : ShV u v lang ns ps bs m4) (hT : TxM kt (heldT bs)) :
  FnO Tryz.prog 58 [v, str id] u [(some m4, .mp kt)] fun r u' l' => r = str (refTx ns bs lang id) ∧ ∃ kt', l' = [(some m4, .mp kt')] ∧ TxM kt' (heldT bs) := by
 obtain ⟨b, m1, m2, m3, k1, k2, k3, T, fr, rfl, hu1, hm1, hk1, hm2, hk2, hm3, hk3⟩ := hV
 obtain ⟨n, vl, hval, hsome, hn1, hn2, honev⟩ := hk1.val id
 obtain ⟨hs1, hs2⟩ := hline_ok bs hsm id
 obtain ⟨had, hn, hcap, hval2, hin2, _⟩ := hk2.val id
 obtain ⟨w, ok, hval3, hsome3, hw⟩ := hT.val id
 have hkeys := hT.1
 have hwl := wordOf_len lang
 have oneAll : [str n.id, str n.kind, str n.value, vl].all Value.oneCell' = true := by
  simp [honev]
  simp [str, Value.oneCell']
 refine FnO.intro [.tmp 4] Tryz.func58 rfl rfl rfl ?_
 intro w0 D hw0
 refine Zd (Za (ya rfl rfl (Zf (ρ' := [(0, _), (1, _)]) ⟨rfl, rfl, trivial⟩ ?_)))
 refine Zc (Zd (Zd (Za (ym rfl rfl (Zg (Zbb rfl rfl) rfl (Zg (Zbi rfl Tryz.f97' rfl (by decide) rfl) rfl (Zg (Zbd rfl Tryz.k93 rfl (by assumption) (vs := [_]) (by first | rfl | exact hP | exact cut_at hP rfl (Nat.le_of_ble_eq_true rfl) rfl) rfl rfl) rfl ?_)))))))
 refine ym rfl rfl (Zg (y_lookup2_v rfl Tryz.m93 Tryz.str9 Tryz.v50 rfl hm1 rfl rfl hk1.1) rfl ?_)
 rw [hval, hsome]
 refine ym rfl rfl (Zg (Zbj rfl rfl rfl) rfl (Zg (Zbj rfl rfl rfl) rfl (Zv rfl rfl ?_)))
 refine Zas trivial Tryz.z50 rfl rfl rfl ?_
 refine Zv rfl rfl ?_
 refine Zm trivial rfl Tryz.k50 rfl rfl rfl (vs := [_, _, _, _]) rfl rfl (by first | rfl | assumption | simp [Value.oneCell', str]) (Nat.le_of_ble_eq_true rfl) rfl ?_
 refine ya rfl rfl (Zf (ρ' := [(0, _), (1, _), (5, _), (6, _)]) ⟨rfl, rfl, rfl, rfl, trivial⟩ ?_)
 refine Zc (Zd ?_)
 refine Zcj 22 (decide ((numFor ns id).isSome = true ∧ id ≠ [])) (ρk := [(0, _), (1, _), (5, _)]) ⟨rfl, rfl, rfl, trivial⟩ ?_ ?_
 ·
  refine Za (ym rfl rfl (ym rfl rfl ?_))
  rcases Bool.eq_false_or_eq_true ((numFor ns id).isSome) with hg2_1 | hg2_1
  ·
   simp only [hg2_1]
   refine Zk rfl rfl (ym rfl rfl (Zk rfl rfl (Zg (Zbv rfl rfl rfl) rfl (Zg (Zl rfl rfl rfl) rfl ?_))))
   exact Zam rfl ⟨rfl, rfl, rfl, trivial⟩ (by first | (simp; done) | (rw [hg2_1]; simp))
  ·
   simp only [hg2_1]
   refine Zt rfl rfl rfl rfl (Zt rfl rfl rfl rfl (Zg (Zn rfl rfl rfl) rfl ?_))
   exact Zam rfl ⟨rfl, rfl, rfl, trivial⟩ (by first | (simp; done) | (rw [hg2_1]; simp))
 refine Zc ?_
 refine Zo rfl (fun hb2 => ?_) (fun hb2 => ?_)
 ·
  have h2 := of_decide_eq_true hb2
  obtain ⟨n', hn'⟩ := Option.isSome_iff_exists.1 h2.1
  obtain rfl := hn1 n' hn'
  have hR : refTx ns bs lang id = numT lang n' := by unfold refTx; rw [hn']; exact if_neg h2.2
  obtain ⟨l1, l2, l3⟩ := hns.2 n' (List.mem_of_find?_eq_some hn')
  refine Zd (Zd (Za (Zg (Zh rfl Tryz.f50' rfl (by decide) rfl) rfl (Zg (Zi rfl Tryz.k9 rfl rfl rfl (vs := [_]) rfl rfl rfl) rfl (Zg (Zba rfl rfl rfl) rfl (Zf (ρ' := [(0, _), (5, _), (25, _)]) ⟨rfl, rfl, rfl, trivial⟩ ?_))))))
  refine Zc ?_
  refine Zo rfl (fun hb3 => ?_) (fun hb3 => ?_)
  ·
   have h3 : n'.kind = equS := of_decide_eq_true hb3
   refine Zd (Za (Zg (Zh rfl Tryz.f50' rfl (by decide) rfl) rfl (Zg (Zi rfl Tryz.k9 rfl rfl rfl (vs := [_]) rfl rfl rfl) rfl (Zg (Zcd (l := [40]) rfl rfl rfl (by simp only [List.length_cons, List.length_nil]; omega)) rfl (Zg (Zcd (m := [41]) rfl rfl rfl (by simp only [List.length_append, List.length_cons, List.length_nil]; omega)) rfl (ya rfl rfl (Zf (ρ' := [(4, _)]) ⟨rfl, trivial⟩ ?_)))))))
   refine Zc (Zw (Zj (Zj ?_)))
   refine finO1 [1000] (.tmp rfl) rfl rfl ?_
   exact ⟨by rw [hR]; unfold numT; rw [if_pos h3], _, rfl, hT⟩
  ·
   have h3 : ¬ n'.kind = equS := of_decide_eq_false hb3
   refine Zr (Zc (Zd ?_))
   refine Zbk Tryz.mixed rfl [(5, _)] ⟨rfl, trivial⟩ ?_
   refine Zal 0 rfl (by kernel_rfl) (Zb (Zb (Zp))) (Zap rfl rfl) rfl ?_
   refine Zal 1 rfl (by kernel_rfl) (Zb (Zb (Zp))) (Zbb rfl rfl) rfl ?_
   refine Zal 2 rfl (by kernel_rfl) (Zb (Zb (Zp))) (Zbi rfl Tryz.f97' rfl (by decide) rfl) rfl ?_
   refine Zal 3 rfl (by kernel_rfl) (Zb (Zb (Zp))) (Zbd rfl Tryz.k9 rfl (by assumption) (vs := [_]) (by first | rfl | exact hP | exact cut_at hP rfl (Nat.le_of_ble_eq_true rfl) rfl) rfl rfl) rfl ?_
   refine Zal 4 rfl (by kernel_rfl) (Zb (Zb (Zp))) (Zh rfl Tryz.f50' rfl (by decide) rfl) rfl ?_
   refine Zal 5 rfl (by kernel_rfl) (Zb (Zb (Zp))) (Zi rfl Tryz.k9 rfl rfl rfl (vs := [_]) rfl rfl rfl) rfl ?_
   refine Zal 8 rfl (by kernel_rfl) (Zb (Zb (Zp))) (Zh rfl Tryz.f50' rfl (by decide) rfl) rfl ?_
   refine Zal 9 rfl (by kernel_rfl) (Zb (Zb (Zp))) (Zi rfl Tryz.k9 rfl rfl rfl (vs := [_]) rfl rfl rfl) rfl ?_
   refine Zar (i := 6) rfl rfl (by kernel_rfl) ?_
   refine Zaa (caps := []) ⟨rfl, trivial⟩ rfl rfl Tryz.c83 rfl (FnP.mono (word_fn lang n'.kind u) ?_)
   rintro v u1 hle1 rfl
   have hwl := hwl n'.kind
   refine Zal 7 rfl (by kernel_rfl) (Zb (Zb (Zp))) (Zcd (m := [32]) rfl rfl rfl (by simp only [List.length_cons, List.length_nil]; omega)) rfl ?_
   refine Zal 10 rfl (by kernel_rfl) (Zb (Zb (Zp))) (Zcd rfl rfl rfl (by simp only [List.length_append, List.length_cons, List.length_nil]; omega)) rfl ?_
   refine Zal 11 rfl (by kernel_rfl) (Zb (Zb (Zp))) (Zcf rfl rfl) rfl ?_
   refine Zbl (by kernel_rfl) (ρ' := [(4, _)]) ⟨rfl, trivial⟩ ?_
   refine Zc (Zw (Zj ?_))
   refine finO1 [1000] (.tmp rfl) rfl rfl ?_
   exact ⟨by rw [hR]; unfold numT; rw [if_neg h3], _, rfl, hT⟩
 ·
  have h2 := of_decide_eq_false hb2
  have hR : refTx ns bs lang id = heldT bs id := by
   unfold refTx
   cases hf : numFor ns id with
   | none => rfl
   | some x =>
    by_cases e : id = []
    ·
     exact if_pos e
    ·
     exact absurd ⟨by rw [hf]; rfl, e⟩ h2
  refine Zr (Zc (Zd (Za (ym rfl rfl (Zg (Zbb rfl rfl) rfl (Zg (Zbi rfl Tryz.f97' rfl (by decide) rfl) rfl (Zg (Zbd rfl Tryz.k95 rfl (by assumption) (vs := [_]) (by first | rfl | exact hP | exact cut_at hP rfl (Nat.le_of_ble_eq_true rfl) rfl) rfl rfl) rfl ?_)))))))
  refine rl_pinSM 45 1000 m4 rfl rfl ?_
  refine ym rfl rfl (Zg (y_lookup2 rfl Tryz.m95 Tryz.str9 Tryz.v9 rfl rfl rfl rfl rfl (by assumption)) rfl ?_)
  rw [hval3, hsome3]
  refine ym rfl rfl (Zg (Zbj rfl rfl rfl) rfl (Zg (Zbj rfl rfl rfl) rfl (ya rfl rfl (ya rfl rfl (Zf (ρ' := [(0, _), (1, _), (7, _), (8, _)]) ⟨rfl, rfl, rfl, rfl, trivial⟩ ?_)))))
  refine Zc (Zd (Zd (Za (ym rfl rfl (Zg (Zbr rfl rfl) rfl (Zf (ρ' := [(0, _), (1, _), (7, _), (51, _)]) ⟨rfl, rfl, rfl, rfl, trivial⟩ ?_))))))
  refine Zc ?_
  refine Zo rfl (fun hb7 => ?_) (fun hb7 => ?_)
  ·
   have h7 : ok = false := (by simpa using hb7)
   refine Zbu (fun ρ σ uc11 => ∃ (g : Bs), VLe u uc11 ∧ σ = [(1000, (some m4, .mp kt))] ∧ ρ = [(0, .v (.pointer (some ⟨b, 0, none⟩))), (1, .v (str id)), (7, .v (str g))] ∧ (u = uc11 ∧ g = heldT bs id)) ?_ ?_
   ·
    refine Zd (Za (ym rfl rfl (Zg (Zbb rfl rfl) rfl (Zg (Zbi rfl Tryz.f97' rfl (by decide) rfl) rfl (Zg (Zbd rfl Tryz.k94 rfl (by assumption) (vs := [_]) (by first | rfl | exact hP | exact cut_at hP rfl (Nat.le_of_ble_eq_true rfl) rfl) rfl rfl) rfl ?_)))))
    refine ym rfl rfl (Zg (y_lookup_v rfl Tryz.m94 Tryz.str9 Tryz.v35 rfl hm2 rfl rfl hk2.1) rfl ?_)
    rw [hval2]
    refine Zv rfl rfl ?_
    refine Zaa (caps := []) trivial rfl rfl Tryz.c84 rfl (FnP.mono (treePlain_fn _ (hlineOf (evB bs) id) (by omega) (txI_of _ hs1) _ hin2) ?_)
    rintro v u1 hle1 rfl
    refine ya rfl rfl (Zf (ρ' := [(0, _), (1, _), (7, _)]) ⟨rfl, rfl, rfl, trivial⟩ ?_)
    refine Zc (Zd (Za (ym rfl rfl (Zg (Zba rfl rfl rfl) rfl (Zf (ρ' := [(0, _), (1, _), (7, _), (60, _)]) ⟨rfl, rfl, rfl, rfl, trivial⟩ ?_)))))
    refine Zc ?_
    refine Zo rfl (fun hb9 => ?_) (fun hb9 => ?_)
    ·
     have h9 := of_decide_eq_true hb9
     refine Za (ym rfl rfl (ya rfl rfl (Zf (ρ' := [(0, _), (1, _), (7, _)]) ⟨rfl, rfl, rfl, trivial⟩ ?_)))
     refine Zab ?_
     first
      | (refine ⟨[(0, _), (1, _), (7, _)], [(1000, _)], ⟨rfl, rfl, rfl, trivial⟩, ⟨rfl, trivial⟩, _, (VLe.refl _), (by first | rfl | simp), (by first | rfl | (simp only [List.cons.injEq, Prod.mk.injEq, SV.v.injEq, Value.int.injEq, true_and, and_true]; omega) | simp), ?_⟩
         (refine ⟨rfl, ?_⟩; unfold heldT; rw [if_pos h9]))
      | (refine ⟨[(0, _), (1, _), (7, _)], [(1000, _)], ⟨rfl, rfl, rfl, trivial⟩, ⟨rfl, trivial⟩, _, (VLe.refl _), (by first | rfl | simp), (by first | rfl | (simp only [List.cons.injEq, Prod.mk.injEq, SV.v.injEq, Value.int.injEq, true_and, and_true]; omega) | simp), ?_⟩
         (refine ⟨rfl, ?_⟩; unfold heldT; rw [if_neg h9]))
    ·
     have h9 := of_decide_eq_false hb9
     refine Zr (Zab ?_)
     first
      | (refine ⟨[(0, _), (1, _), (7, _)], [(1000, _)], ⟨rfl, rfl, rfl, trivial⟩, ⟨rfl, trivial⟩, _, (VLe.refl _), (by first | rfl | simp), (by first | rfl | (simp only [List.cons.injEq, Prod.mk.injEq, SV.v.injEq, Value.int.injEq, true_and, and_true]; omega) | simp), ?_⟩
         (refine ⟨rfl, ?_⟩; unfold heldT; rw [if_pos h9]))
      | (refine ⟨[(0, _), (1, _), (7, _)], [(1000, _)], ⟨rfl, rfl, rfl, trivial⟩, ⟨rfl, trivial⟩, _, (VLe.refl _), (by first | rfl | simp), (by first | rfl | (simp only [List.cons.injEq, Prod.mk.injEq, SV.v.injEq, Value.int.injEq, true_and, and_true]; omega) | simp), ?_⟩
         (refine ⟨rfl, ?_⟩; unfold heldT; rw [if_neg h9]))
   ·
    rintro ρ σ uc11 ⟨g, hlc11, rfl, rfl, ⟨rfl, hg⟩⟩
    refine Za (ym rfl rfl (Zg (Zbb rfl rfl) rfl (Zg (Zbi rfl Tryz.f97' rfl (by decide) rfl) rfl (Zg (Zbd rfl Tryz.k95 rfl (by assumption) (vs := [_]) (by first | rfl | exact hP | exact cut_at hP rfl (Nat.le_of_ble_eq_true rfl) rfl) rfl rfl) rfl ?_))))
    refine rl_pinSM 65 1000 m4 rfl rfl ?_
    refine ym rfl rfl (ym rfl rfl (Zv rfl rfl ?_))
    refine Zcb trivial rfl Tryz.m95 Tryz.str9 rfl rfl rfl rfl rfl (by assumption) ?_
    refine Zf (ρ' := [(7, _)]) ⟨rfl, trivial⟩ ?_
    refine Zc (Zd (Za (ym rfl rfl (ya rfl rfl (Zf (ρ' := [(4, _)]) ⟨rfl, trivial⟩ ?_)))))
    refine Zc (Zw ?_)
    refine finO1 [1000] (.tmp rfl) rfl rfl ?_
    subst hg; exact ⟨by rw [hR], _, rfl, hT.add id⟩
  ·
   have h7 : ok = true := (by simpa using hb7)
   refine Zr (Zc (Zd (Za (ym rfl rfl (ya rfl rfl (Zf (ρ' := [(4, _)]) ⟨rfl, trivial⟩ ?_))))))
   refine Zc (Zw ?_)
   refine finO1 [1000] (.tmp rfl) rfl rfl ?_
   exact ⟨by rw [hR, hw h7], _, rfl, hT⟩
theorem linkI_ok (u : View) (t s : Bs) (v : Value) (ht : t.length ≤ 1000000) (hv : InlS u v [textI s]) : InlC u (linkI t s) (inlV 9 [] (35 :: t) [] [] (.slice none 0 0) (.slice none 0 0) (.slice none 0 0) (.slice none 0 0) v) := by
 unfold linkI
 exact InlC.mk' (a := attrZ) (nilStr _) (nilPr _) (nilStr _) (nilCi _) hv ⟨intOk_of (by decide), by decide, by simp; omega, by decide, attrOk0, ⟨by decide, by simp⟩, ⟨by decide, by simp⟩, by simp⟩
theorem textI_ok (u : View) (s : Bs) (hs : s.length ≤ 1000000000) : InlC u (textI s) (inlV 1 s [] [] [] (.slice none 0 0) (.slice none 0 0) (.slice none 0 0) (.slice none 0 0) (.slice none 0 0)) := by
 unfold textI
 exact InlC.mk' (a := attrZ) (nilStr _) (nilPr _) (nilStr _) (nilCi _) (nilInl _) ⟨intOk_of (by decide), by omega, by decide, by decide, attrOk0, ⟨by decide, by simp⟩, ⟨by decide, by simp⟩, by decide⟩
theorem refT_len (ns : List DNum) (bs : List Blk) (lang : Bs) (ps : List (Bs × Bs)) (t ti : Bs) (hsm : smB bs) (hbig : szB bs ≤ 1000) (ht : t.length ≤ 100000) (hns : NsOk ns) (hps : ∀ p ∈ ps, p.2.length ≤ 100000) : (refT ns bs lang ps t ti).length ≤ 1000000000 := by
 have h1 := heldT_len bs hsm hbig t ht
 unfold refT
 split
 ·
  unfold placeT placeV
  cases hp : placeOf ps t with
  | none => simp
  | some p =>
   have := hps p (List.mem_of_find?_eq_some hp)
   simp only
   split
   ·
    simp
   ·
    omega
 ·
  unfold refTx
  cases hn : numFor ns t with
  | none => simp only; omega
  | some n =>
   obtain ⟨_, _, l3⟩ := hns.2 n (List.mem_of_find?_eq_some hn)
   have hwl := wordOf_len lang n.kind
   simp only
   split
   ·
    omega
   ·
    unfold numT
    split <;> simp <;> omega
set_option maxHeartbeats 1000000 in
theorem show_fn (v : Value) (lang : Bs) (ns : List DNum) (ps : List (Bs × Bs)) (bs : List Blk) (m4 : Nat) (kt : List (Value × Value)) (x : Inl) (cs : List Value) (hsm : smB bs) (hbig : szB bs ≤ 1000) (hns : NsOk ns) (hps : ∀ p ∈ ps, p.2.length ≤ 100000) (u : View) (hV : ShV u v lang ns ps bs m4) (hT : TxM kt (heldT bs))
  (hid : (match x with | .mk _ t _ ti _ _ _ _ => t.length ≤ 100000)) (hx : InlC u x cs) :
  FnO Tryz.prog 24 [v, .agg cs.toArray] u [(some m4, .mp kt)] fun r u' l' => (∃ cs', r = .agg cs'.toArray ∧ InlC u' (match x with | .mk _ t _ ti _ _ _ _ => linkI t (refT ns bs lang ps t ti)) cs') ∧ ∃ kt', l' = [(some m4, .mp kt')] ∧ TxM kt' (heldT bs) := by
 obtain ⟨k, t, d, ti, a, args, cites, kids⟩ := x
 have oneAll := hx.one
 obtain ⟨vc, vp, va, vt, vk, rfl, q1, q2, q3, q4, q5, hok⟩ := hx.cells
 have hV2 := hV
 have hrl := refT_len ns bs lang ps t ti hsm hbig hid hns hps
 obtain ⟨b, m1, m2, m3, k1, k2, k3, T, fr, rfl, hu1, hm1, hk1, hm2, hk2, hm3, hk3⟩ := hV2
 obtain ⟨hval, _⟩ := hk3.val t
 simp only at hid
 refine FnO.intro [.cell 4 42] Tryz.func24 rfl rfl rfl ?_
 intro w0 D hw0
 refine Zd (Za (Zv rfl rfl ?_))
 refine Zbx trivial rfl (cs := [_, _, _, _, _, _, _, _, _, _]) rfl rfl rfl rfl ?_
 refine Zv rfl rfl ?_
 refine Zas trivial Tryz.z42 rfl rfl rfl ?_
 refine Zf (ρ' := [(0, _), (3, _), (4, _)]) ⟨rfl, rfl, rfl, trivial⟩ ?_
 refine Zc (Zd (Za (ya rfl rfl (Zf (ρ' := [(0, _), (3, _), (4, _)]) ⟨rfl, rfl, rfl, trivial⟩ ?_))))
 refine Zc ?_
 refine Zbu (fun ρ σ uc7 => ∃ (g : Bs) (kt3 : List (Value × Value)), VLe u uc7 ∧ σ = [(3, (none, .box (inlV k t d ti a.id vc vp va vt vk))), (4, (none, .box [.int .i64 0, str [], str [], str [], str [], .slice none 0 0, .slice none 0 0, .slice none 0 0, .slice none 0 0, .slice none 0 0])), (1000, (some m4, .mp kt3))] ∧ ρ = [(3, .p 3 0), (4, .p 4 0), (5, .v (str g))] ∧ (g = refT ns bs lang ps t ti ∧ TxM kt3 (heldT bs))) ?_ ?_
 ·
  refine Zd (Za (Zg (Zh rfl Tryz.f42' rfl (by decide) rfl) rfl (Zg (Zi rfl Tryz.k9 rfl rfl rfl (vs := [_]) rfl rfl rfl) rfl (Zg (Zba rfl rfl rfl) rfl (Zf (ρ' := [(0, _), (3, _), (4, _), (8, _)]) ⟨rfl, rfl, rfl, rfl, trivial⟩ ?_)))))
  refine Zc ?_
  refine Zo rfl (fun hb2 => ?_) (fun hb2 => ?_)
  ·
   have h2 : ti = pageS := of_decide_eq_true hb2
   refine Zd ?_
   refine Zbk Tryz.mixed rfl [(3, _)] ⟨rfl, trivial⟩ ?_
   refine Zal 0 rfl (by kernel_rfl) (Zb (Zb (Zp))) (Zap rfl rfl) rfl ?_
   refine Zal 1 rfl (by kernel_rfl) (Zb (Zb (Zp))) (Zbb rfl rfl) rfl ?_
   refine Zal 2 rfl (by kernel_rfl) (Zb (Zb (Zp))) (Zbi rfl Tryz.f97' rfl (by decide) rfl) rfl ?_
   refine Zal 3 rfl (by kernel_rfl) (Zb (Zb (Zp))) (Zbd rfl Tryz.k95 rfl (by assumption) (vs := [_]) (by first | rfl | exact hP | exact cut_at hP rfl (Nat.le_of_ble_eq_true rfl) rfl) rfl rfl) rfl ?_
   refine Zal 4 rfl (by kernel_rfl) (Zb (Zb (Zp))) (Zh rfl Tryz.f42' rfl (by decide) rfl) rfl ?_
   refine Zal 5 rfl (by kernel_rfl) (Zb (Zb (Zp))) (Zi rfl Tryz.k9 rfl rfl rfl (vs := [_]) rfl rfl rfl) rfl ?_
   refine Zal 6 rfl (by kernel_rfl) (Zb (Zb (Zp))) (y_lookup_v rfl Tryz.m95 Tryz.str9 Tryz.v9 rfl hm3 rfl rfl hk3.1) rfl ?_
   rw [hval]
   refine Zal 7 rfl (by kernel_rfl) (Zb (Zb (Zp))) (Zcf rfl rfl) rfl ?_
   refine Zbl (by kernel_rfl) (ρ' := [(3, _), (4, _), (5, _)]) ⟨rfl, rfl, rfl, trivial⟩ ?_
   refine Zc (Zd (Za (ym rfl rfl (Zg (Zba rfl rfl rfl) rfl (Zf (ρ' := [(3, _), (4, _), (5, _), (17, _)]) ⟨rfl, rfl, rfl, rfl, trivial⟩ ?_)))))
   refine Zc ?_
   refine Zo rfl (fun hb4 => ?_) (fun hb4 => ?_)
   ·
    have h4 := of_decide_eq_true hb4
    refine Za (ya rfl rfl (Zf (ρ' := [(3, _), (4, _), (5, _)]) ⟨rfl, rfl, rfl, trivial⟩ ?_))
    refine Zab ?_
    first
     | (refine ⟨[(3, _), (4, _), (5, _)], [(3, _), (4, _), (1000, _)], ⟨rfl, rfl, rfl, trivial⟩, ⟨rfl, rfl, rfl, trivial⟩, _, kt, (VLe.refl _), (by first | rfl | simp), (by first | rfl | (simp only [List.cons.injEq, Prod.mk.injEq, SV.v.injEq, Value.int.injEq, true_and, and_true]; omega) | simp), ?_⟩
        (refine ⟨?_, hT⟩; unfold refT placeT; rw [if_pos h2, if_pos h4]))
     | (refine ⟨[(3, _), (4, _), (5, _)], [(3, _), (4, _), (1000, _)], ⟨rfl, rfl, rfl, trivial⟩, ⟨rfl, rfl, rfl, trivial⟩, _, kt, (VLe.refl _), (by first | rfl | simp), (by first | rfl | (simp only [List.cons.injEq, Prod.mk.injEq, SV.v.injEq, Value.int.injEq, true_and, and_true]; omega) | simp), ?_⟩
        (refine ⟨?_, hT⟩; unfold refT placeT; rw [if_pos h2, if_neg h4]))
     | (refine ⟨[(3, _), (4, _), (5, _)], [(3, _), (4, _), (1000, _)], ⟨rfl, rfl, rfl, trivial⟩, ⟨rfl, rfl, rfl, trivial⟩, _, kt2, hleX, (by first | rfl | simp), (by first | rfl | (simp only [List.cons.injEq, Prod.mk.injEq, SV.v.injEq, Value.int.injEq, true_and, and_true]; omega) | simp), ?_⟩
        (refine ⟨?_, hT2⟩; unfold refT; rw [if_neg h2]))
   ·
    have h4 := of_decide_eq_false hb4
    refine Zr (Zab ?_)
    first
     | (refine ⟨[(3, _), (4, _), (5, _)], [(3, _), (4, _), (1000, _)], ⟨rfl, rfl, rfl, trivial⟩, ⟨rfl, rfl, rfl, trivial⟩, _, kt, (VLe.refl _), (by first | rfl | simp), (by first | rfl | (simp only [List.cons.injEq, Prod.mk.injEq, SV.v.injEq, Value.int.injEq, true_and, and_true]; omega) | simp), ?_⟩
        (refine ⟨?_, hT⟩; unfold refT placeT; rw [if_pos h2, if_pos h4]))
     | (refine ⟨[(3, _), (4, _), (5, _)], [(3, _), (4, _), (1000, _)], ⟨rfl, rfl, rfl, trivial⟩, ⟨rfl, rfl, rfl, trivial⟩, _, kt, (VLe.refl _), (by first | rfl | simp), (by first | rfl | (simp only [List.cons.injEq, Prod.mk.injEq, SV.v.injEq, Value.int.injEq, true_and, and_true]; omega) | simp), ?_⟩
        (refine ⟨?_, hT⟩; unfold refT placeT; rw [if_pos h2, if_neg h4]))
     | (refine ⟨[(3, _), (4, _), (5, _)], [(3, _), (4, _), (1000, _)], ⟨rfl, rfl, rfl, trivial⟩, ⟨rfl, rfl, rfl, trivial⟩, _, kt2, hleX, (by first | rfl | simp), (by first | rfl | (simp only [List.cons.injEq, Prod.mk.injEq, SV.v.injEq, Value.int.injEq, true_and, and_true]; omega) | simp), ?_⟩
        (refine ⟨?_, hT2⟩; unfold refT; rw [if_neg h2]))
  ·
   have h2 : ¬ ti = pageS := of_decide_eq_false hb2
   refine Za (ym rfl rfl (Zg (Zh rfl Tryz.f42' rfl (by decide) rfl) rfl (Zg (Zi rfl Tryz.k9 rfl rfl rfl (vs := [_]) rfl rfl rfl) rfl (Zv rfl rfl ?_))))
   refine Zaj (caps := []) (ρ' := [(3, _), (4, _)]) [1000] [] trivial rfl rfl rfl Tryz.c58 rfl rfl ⟨rfl, rfl, trivial⟩ rfl rfl rfl (FnO.mono (text_fn _ lang t ns ps bs m4 kt hsm hbig hid hns u hV hT) ?_)
   rintro v uX l1 hleX ⟨rfl, kt2, rfl, hT2⟩ -
   refine ⟨⟨fun _ h => h, trivial⟩, ?_⟩
   refine ya rfl rfl (Zf (ρ' := [(3, _), (4, _), (5, _)]) ⟨rfl, rfl, rfl, trivial⟩ ?_)
   refine Zab ?_
   first
    | (refine ⟨[(3, _), (4, _), (5, _)], [(3, _), (4, _), (1000, _)], ⟨rfl, rfl, rfl, trivial⟩, ⟨rfl, rfl, rfl, trivial⟩, _, kt, (VLe.refl _), (by first | rfl | simp), (by first | rfl | (simp only [List.cons.injEq, Prod.mk.injEq, SV.v.injEq, Value.int.injEq, true_and, and_true]; omega) | simp), ?_⟩
       (refine ⟨?_, hT⟩; unfold refT placeT; rw [if_pos h2, if_pos h4]))
    | (refine ⟨[(3, _), (4, _), (5, _)], [(3, _), (4, _), (1000, _)], ⟨rfl, rfl, rfl, trivial⟩, ⟨rfl, rfl, rfl, trivial⟩, _, kt, (VLe.refl _), (by first | rfl | simp), (by first | rfl | (simp only [List.cons.injEq, Prod.mk.injEq, SV.v.injEq, Value.int.injEq, true_and, and_true]; omega) | simp), ?_⟩
       (refine ⟨?_, hT⟩; unfold refT placeT; rw [if_pos h2, if_neg h4]))
    | (refine ⟨[(3, _), (4, _), (5, _)], [(3, _), (4, _), (1000, _)], ⟨rfl, rfl, rfl, trivial⟩, ⟨rfl, rfl, rfl, trivial⟩, _, kt2, hleX, (by first | rfl | simp), (by first | rfl | (simp only [List.cons.injEq, Prod.mk.injEq, SV.v.injEq, Value.int.injEq, true_and, and_true]; omega) | simp), ?_⟩
       (refine ⟨?_, hT2⟩; unfold refT; rw [if_neg h2]))
 ·
  rintro ρ σ uc7 ⟨g, kt3, hlc7, rfl, rfl, ⟨rfl, hT3⟩⟩
  refine Zd (Za (Zg (Zh rfl Tryz.f42' rfl (by decide) rfl) rfl (Zg (Zi rfl Tryz.k9 rfl rfl rfl (vs := [_]) rfl rfl rfl) rfl (Zg (Zcd (l := [35]) rfl rfl rfl (by simp only [List.length_cons, List.length_nil]; omega)) rfl (ym rfl rfl (Zg (Zbf rfl Tryz.f42' Tryz.z42 (ps := [(_, _), (_, _)]) rfl (vs := [_, _, _, _, _, _, _, _, _, _]) rfl) rfl ?_))))))
  refine Zv rfl rfl ?_
  refine Zak trivial Tryz.s35 Tryz.z42 (ps := [(_, _)]) rfl (xs := [_, _, _, _, _, _, _, _, _, _]) rfl rfl rfl rfl rfl rfl rfl ?_
  refine Zbo 27 rfl ?_
  intro ad27 cap27 u27 hle27z hsl27
  refine Zg (Zbf rfl Tryz.f42' Tryz.z42 (ps := [(_, _), (_, _), (_, _)]) rfl (vs := [_, _, _, _, _, _, _, _, _, _]) rfl) rfl ?_
  refine Zv rfl rfl ?_
  refine Zm trivial rfl Tryz.k42 rfl rfl rfl (vs := [_, _, _, _, _, _, _, _, _, _]) rfl rfl (by first | rfl | assumption | simp [Value.oneCell', str]) (Nat.le_of_ble_eq_true rfl) rfl ?_
  refine Zf (ρ' := [(4, _)]) ⟨rfl, trivial⟩ ?_
  refine Zc (Zw ?_)
  refine finO1 [1000] (.cell rfl rfl Tryz.k42 (cs := _) (vs := [_, _, _, _, _, _, _, _, _, _]) rfl rfl rfl) rfl rfl ?_
  refine ⟨⟨_, rfl, ?_⟩, _, rfl, hT3⟩
  exact linkI_ok _ t _ _ (by omega) (inlS_of rfl hsl27 (InlsC.one (textI_ok _ _ hrl)))
theorem addHd_fn (bs' bsh bh m1 m3 m4 : Nat) (lang : Bs) (kvs : List (Value × Value)) (l : List Ev) (e : Ev) (ad : Option Addr) (n cap : Nat) (u : View) (T1 T2 : TypeId) (f1 f2 : Nat × Nat) (hbb1 : u bs' = some (.cells [.pointer (some ⟨bsh, 0, none⟩)].toArray T1 f1)) (hbb2 : u bsh = some (.cells [str lang, .map (some m1), .map (some bh), .map (some m3), .map (some m4)].toArray T2 f2))
  (hk : HdM u kvs l) (hv : InlS u (.slice ad n cap) (headEv e)) :
  FnO Tryz.prog 55 [str (evId e), .slice ad n cap, .pointer (some ⟨bs', 0, none⟩)] u [(some bh, .mp kvs)] fun r u' l' => r = .tuple #[] ∧ ∃ kvs', l' = [(some bh, .mp kvs')] ∧ HdM u' kvs' (l ++ [e]) := by
 have hkeys := hk.1
 obtain ⟨ad0, n0, cap0, hval, _, hsome⟩ := hk.val (evId e)
 refine FnO.intro [] Tryz.func55 rfl rfl rfl ?_
 intro w0 D hw0
 refine Zd (Za (Zg (Zbd rfl Tryz.k61 rfl (by assumption) (vs := [_]) (by first | rfl | exact hP | exact cut_at hP rfl (Nat.le_of_ble_eq_true rfl) rfl) rfl rfl) rfl ?_))
 refine Zg (Zbb rfl rfl) rfl (Zg (Zbi rfl Tryz.f97' rfl (by decide) rfl) rfl (Zg (Zbd rfl Tryz.k94 rfl (by assumption) (vs := [_]) (by first | rfl | exact hP | exact cut_at hP rfl (Nat.le_of_ble_eq_true rfl) rfl) rfl rfl) rfl ?_))
 refine rl_pinSM 11 1000 bh rfl rfl ?_
 refine ym rfl rfl (Zg (y_lookup2 rfl Tryz.m94 Tryz.str9 Tryz.v35 rfl rfl rfl rfl rfl (by assumption)) rfl ?_)
 rw [hval, hsome]
 refine ym rfl rfl (Zg (Zbj rfl rfl rfl) rfl (Zg (Zbj rfl rfl rfl) rfl (ya rfl rfl (ya rfl rfl (Zf (ρ' := [(0, _), (1, _), (2, _), (6, _)]) ⟨rfl, rfl, rfl, rfl, trivial⟩ ?_)))))
 refine Zc (Zd (Za (ym rfl rfl (Zg (Zbr rfl rfl) rfl (Zf (ρ' := [(0, _), (1, _), (2, _), (17, _)]) ⟨rfl, rfl, rfl, rfl, trivial⟩ ?_)))))
 refine Zc ?_
 refine Zo rfl (fun hb1 => ?_) (fun hb1 => ?_)
 ·
  have h1 : (headOf l (evId e)).isSome = false := (by simpa using hb1)
  refine Za (Zg (Zbd rfl Tryz.k61 rfl (by assumption) (vs := [_]) (by first | rfl | exact hP | exact cut_at hP rfl (Nat.le_of_ble_eq_true rfl) rfl) rfl rfl) rfl ?_)
  refine Zg (Zbb rfl rfl) rfl (Zg (Zbi rfl Tryz.f97' rfl (by decide) rfl) rfl (Zg (Zbd rfl Tryz.k94 rfl (by assumption) (vs := [_]) (by first | rfl | exact hP | exact cut_at hP rfl (Nat.le_of_ble_eq_true rfl) rfl) rfl rfl) rfl ?_))
  refine rl_pinSM 21 1000 bh rfl rfl ?_
  refine ym rfl rfl (ym rfl rfl (Zv rfl rfl ?_))
  refine Zcb trivial rfl Tryz.m94 Tryz.str9 rfl rfl rfl rfl rfl (by assumption) ?_
  refine Zf (ρ' := []) trivial ?_
  refine finO0n [1000]  rfl rfl ?_
  exact ⟨rfl, _, rfl, hk.add hv (by simpa using h1)⟩
 ·
  have h1 : (headOf l (evId e)).isSome = true := (by simpa using hb1)
  refine Zr ?_
  refine finO0n [1000]  rfl rfl ?_
  exact ⟨rfl, _, rfl, hk.skip h1⟩
def headsY : Ys := fun u pre o => ∃ kvs, o = .mp kvs ∧ HdM u kvs pre
theorem headsB_fn (ba bs' bsh bh m1 m3 m4 : Nat) (lang : Bs) (u : View) (T0 T1 T2 : TypeId) (f0 f1 f2 : Nat × Nat) (hba : u ba = some (.cells [.func (.func 55) #[] #[.pointer (some ⟨bs', 0, none⟩)]].toArray T0 f0)) (hbs1 : u bs' = some (.cells [.pointer (some ⟨bsh, 0, none⟩)].toArray T1 f1)) (hbs2 : u bsh = some (.cells [str lang, .map (some m1), .map (some bh), .map (some m3), .map (some m4)].toArray T2 f2))
  (pre : List Ev) (o : OO) (u' : View) (p : Value) (x : Blk) (hle : VLe u u') (hl : pre.length ≤ 200000) (hY : headsY u' pre o) (hp : PtrB u' p x) :
  FnO Tryz.prog 56 [p, .pointer (some ⟨ba, 0, none⟩)] u' [(some bh, o)] fun r u'' l' => r = .tuple #[] ∧ ∃ o', l' = [(some bh, o')] ∧ headsY u'' (pre ++ [Sum.inl x]) o' := by
 obtain ⟨b, off, c, Tp, frp, rfl, hu1, hc⟩ := hp
 obtain ⟨k, lv, inf, t, d, ti, a, line, kids⟩ := x
 obtain ⟨vc, vp, vl, vk, hP, _, _, hl1, _⟩ := hc.cells
 have hl2 := hl1
 obtain ⟨lcs, ⟨lad, lcap, rfl, _⟩, _⟩ := hl2
 have hba := hle _ _ hba
 have hbs1 := hle _ _ hbs1
 have hbs2 := hle _ _ hbs2
 obtain ⟨kvs, rfl, hk⟩ := hY
 refine FnO.intro [] Tryz.func56 rfl rfl rfl ?_
 intro w0 D hw0
 refine Zd (Za (ym rfl rfl (Zg (Zbb rfl rfl) rfl (Zg (Zbi rfl Tryz.f59' rfl (by decide) rfl) rfl (Zg (Zbd rfl Tryz.k3 rfl (by assumption) (vs := [_]) (by first | rfl | exact hP | exact cut_at hP rfl (Nat.le_of_ble_eq_true rfl) rfl) rfl rfl) rfl ?_)))))
 refine Zg (Zaw rfl rfl rfl) rfl (Zf (ρ' := [(0, _), (1, _), (7, _)]) ⟨rfl, rfl, rfl, trivial⟩ ?_)
 refine Zc ?_
 refine Zo rfl (fun hb0 => ?_) (fun hb0 => ?_)
 ·
  have h0 := of_decide_eq_true hb0
  refine Zbk Tryz.mixed rfl [] trivial ?_
  refine Zal 0 rfl (by kernel_rfl) (Zp) (Zbd rfl Tryz.k100 rfl (by assumption) (vs := [_]) (by first | rfl | exact hP | exact cut_at hP rfl (Nat.le_of_ble_eq_true rfl) rfl) rfl rfl) rfl ?_
  refine Zal 1 rfl (by kernel_rfl) (Zp) (Zap rfl rfl) rfl ?_
  refine Zal 2 rfl (by kernel_rfl) (Zp) (Zbb rfl rfl) rfl ?_
  refine Zal 3 rfl (by kernel_rfl) (Zp) (Zbi rfl Tryz.f59' rfl (by decide) rfl) rfl ?_
  refine Zal 4 rfl (by kernel_rfl) (Zp) (Zbi rfl Tryz.f39' rfl (by decide) rfl) rfl ?_
  refine Zal 5 rfl (by kernel_rfl) (Zp) (Zbd rfl Tryz.k9 rfl (by assumption) (vs := [_]) (by first | rfl | exact hP | exact cut_at hP rfl (Nat.le_of_ble_eq_true rfl) rfl) rfl rfl) rfl ?_
  refine Zal 6 rfl (by kernel_rfl) (Zp) (Zap rfl rfl) rfl ?_
  refine Zal 7 rfl (by kernel_rfl) (Zp) (Zbb rfl rfl) rfl ?_
  refine Zal 8 rfl (by kernel_rfl) (Zp) (Zbi rfl Tryz.f59' rfl (by decide) rfl) rfl ?_
  refine Zal 9 rfl (by kernel_rfl) (Zp) (Zbd rfl Tryz.k35 rfl (by assumption) (vs := [_]) (by first | rfl | exact hP | exact cut_at hP rfl (Nat.le_of_ble_eq_true rfl) rfl) rfl rfl) rfl ?_
  refine Zar (i := 10) rfl rfl (by kernel_rfl) ?_
  refine Zaj (caps := [.pointer (some ⟨bs', 0, none⟩)]) (ρ' := []) [1000] [] trivial rfl rfl rfl Tryz.c55 rfl rfl trivial rfl rfl rfl (FnO.mono (addHd_fn bs' bsh bh m1 m3 m4 lang kvs pre (.inl (.mk k lv inf t d ti a line kids)) lad line.length lcap u' _ _ _ _ hbs1 hbs2 hk (by have e : headEv (.inl (.mk k lv inf t d ti a line kids)) = line := if_pos h0; rw [e]; exact hl1)) ?_)
  rintro v uX l1 hleX ⟨rfl, k2, rfl, hk2⟩ -
  refine ⟨⟨fun _ h => h, trivial⟩, ?_⟩
  refine Zbl (by kernel_rfl) (ρ' := []) trivial ?_
  refine finO0n [1000]  rfl rfl ?_
  exact ⟨rfl, _, rfl, k2, rfl, hk2⟩
 ·
  have h0 := of_decide_eq_false hb0
  refine Zbk Tryz.mixed rfl [] trivial ?_
  refine Zal 0 rfl (by kernel_rfl) (Zp) (Zbd rfl Tryz.k100 rfl (by assumption) (vs := [_]) (by first | rfl | exact hP | exact cut_at hP rfl (Nat.le_of_ble_eq_true rfl) rfl) rfl rfl) rfl ?_
  refine Zal 1 rfl (by kernel_rfl) (Zp) (Zap rfl rfl) rfl ?_
  refine Zal 2 rfl (by kernel_rfl) (Zp) (Zbb rfl rfl) rfl ?_
  refine Zal 3 rfl (by kernel_rfl) (Zp) (Zbi rfl Tryz.f59' rfl (by decide) rfl) rfl ?_
  refine Zal 4 rfl (by kernel_rfl) (Zp) (Zbi rfl Tryz.f39' rfl (by decide) rfl) rfl ?_
  refine Zal 5 rfl (by kernel_rfl) (Zp) (Zbd rfl Tryz.k9 rfl (by assumption) (vs := [_]) (by first | rfl | exact hP | exact cut_at hP rfl (Nat.le_of_ble_eq_true rfl) rfl) rfl rfl) rfl ?_
  refine Zar (i := 6) rfl rfl (by kernel_rfl) ?_
  refine Zaj (caps := [.pointer (some ⟨bs', 0, none⟩)]) (ρ' := []) [1000] [] trivial rfl rfl rfl Tryz.c55 rfl rfl trivial rfl rfl rfl (FnO.mono (addHd_fn bs' bsh bh m1 m3 m4 lang kvs pre (.inl (.mk k lv inf t d ti a line kids)) none 0 0 u' _ _ _ _ hbs1 hbs2 hk (by have e : headEv (.inl (.mk k lv inf t d ti a line kids)) = [] := if_neg h0; rw [e]; exact nilInls _)) ?_)
  rintro v uX l1 hleX ⟨rfl, k2, rfl, hk2⟩ -
  refine ⟨⟨fun _ h => h, trivial⟩, ?_⟩
  refine Zbl (by kernel_rfl) (ρ' := []) trivial ?_
  refine finO0n [1000]  rfl rfl ?_
  exact ⟨rfl, _, rfl, k2, rfl, hk2⟩
theorem headsI_fn (ba bs' bsh bh m1 m3 m4 : Nat) (lang : Bs) (u : View) (T0 T1 T2 : TypeId) (f0 f1 f2 : Nat × Nat) (hba : u ba = some (.cells [.func (.func 55) #[] #[.pointer (some ⟨bs', 0, none⟩)]].toArray T0 f0)) (hbs1 : u bs' = some (.cells [.pointer (some ⟨bsh, 0, none⟩)].toArray T1 f1)) (hbs2 : u bsh = some (.cells [str lang, .map (some m1), .map (some bh), .map (some m3), .map (some m4)].toArray T2 f2))
  (pre : List Ev) (o : OO) (u' : View) (p : Value) (x : Inl) (hle : VLe u u') (hl : pre.length ≤ 200000) (hY : headsY u' pre o) (hp : PtrI u' p x) :
  FnO Tryz.prog 57 [p, .pointer (some ⟨ba, 0, none⟩)] u' [(some bh, o)] fun r u'' l' => r = .tuple #[] ∧ ∃ o', l' = [(some bh, o')] ∧ headsY u'' (pre ++ [Sum.inr x]) o' := by
 obtain ⟨b, off, c, Tp, frp, rfl, hu1, hc⟩ := hp
 obtain ⟨k, t, d, ti, a, args, cites, kids⟩ := x
 obtain ⟨vc, vp, va, vt, vk, hP, _, _, _, _, hl1, _⟩ := hc.cells
 have hl2 := hl1
 obtain ⟨lcs, ⟨lad, lcap, rfl, _⟩, _⟩ := hl2
 have hba := hle _ _ hba
 have hbs1 := hle _ _ hbs1
 have hbs2 := hle _ _ hbs2
 obtain ⟨kvs, rfl, hk⟩ := hY
 refine FnO.intro [] Tryz.func57 rfl rfl rfl ?_
 intro w0 D hw0
 refine Zbk Tryz.mixed rfl [] trivial ?_
 refine Zal 0 rfl (by kernel_rfl) (Zp) (Zbd rfl Tryz.k100 rfl (by assumption) (vs := [_]) (by first | rfl | exact hP | exact cut_at hP rfl (Nat.le_of_ble_eq_true rfl) rfl) rfl rfl) rfl ?_
 refine Zal 1 rfl (by kernel_rfl) (Zp) (Zap rfl rfl) rfl ?_
 refine Zal 2 rfl (by kernel_rfl) (Zp) (Zbb rfl rfl) rfl ?_
 refine Zal 3 rfl (by kernel_rfl) (Zp) (Zbi rfl Tryz.f42' rfl (by decide) rfl) rfl ?_
 refine Zal 4 rfl (by kernel_rfl) (Zp) (Zbi rfl Tryz.f39' rfl (by decide) rfl) rfl ?_
 refine Zal 5 rfl (by kernel_rfl) (Zp) (Zbd rfl Tryz.k9 rfl (by assumption) (vs := [_]) (by first | rfl | exact hP | exact cut_at hP rfl (Nat.le_of_ble_eq_true rfl) rfl) rfl rfl) rfl ?_
 refine Zal 6 rfl (by kernel_rfl) (Zp) (Zap rfl rfl) rfl ?_
 refine Zal 7 rfl (by kernel_rfl) (Zp) (Zbb rfl rfl) rfl ?_
 refine Zal 8 rfl (by kernel_rfl) (Zp) (Zbi rfl Tryz.f42' rfl (by decide) rfl) rfl ?_
 refine Zal 9 rfl (by kernel_rfl) (Zp) (Zbd rfl Tryz.k35 rfl (by assumption) (vs := [_]) (by first | rfl | exact hP | exact cut_at hP rfl (Nat.le_of_ble_eq_true rfl) rfl) rfl rfl) rfl ?_
 refine Zar (i := 10) rfl rfl (by kernel_rfl) ?_
 refine Zaj (caps := [.pointer (some ⟨bs', 0, none⟩)]) (ρ' := []) [1000] [] trivial rfl rfl rfl Tryz.c55 rfl rfl trivial rfl rfl rfl (FnO.mono (addHd_fn bs' bsh bh m1 m3 m4 lang kvs pre (.inr (.mk k t d ti a args cites kids)) lad kids.length lcap u' _ _ _ _ hbs1 hbs2 hk hl1) ?_)
 rintro v uX l1 hleX ⟨rfl, k2, rfl, hk2⟩ -
 refine ⟨⟨fun _ h => h, trivial⟩, ?_⟩
 refine Zbl (by kernel_rfl) (ρ' := []) trivial ?_
 refine finO0n [1000]  rfl rfl ?_
 exact ⟨rfl, _, rfl, k2, rfl, hk2⟩
theorem headsY_mono : MonoY headsY := fun _ _ _ _ hle ⟨kvs, h1, h2⟩ => ⟨kvs, h1, h2.mono hle⟩
set_option maxHeartbeats 4000000 in
theorem newShower_fn (vm vb vp : Value) (lang : Bs) (bs : List Blk) (ps : List (Bs × Bs)) (u : View) (hT : TabU u) (hbig : szB bs ≤ 1000) (hsm : smB bs) (hpl : ps.length ≤ 1000) (hnl : (numsOf bs).length ≤ 100000) (ha : BlkS u vb bs) (hps : PrS u vp ps) :
  FnO Tryz.prog 22 [.agg #[vm, vb], str lang, vp] u [] fun r u' l' => ∃ m4, l' = [(some m4, .mp [])] ∧ ShV u' r lang (numsOf bs) ps bs m4 := by
 have hps2 := hps
 obtain ⟨pad, pcap, rfl, hp1⟩ := hps2
 refine FnO.intro [.tmp 6] Tryz.func22 rfl rfl rfl ?_
 intro w0 D hw0
 refine Zd (Za (Zv rfl rfl ?_))
 refine Zbx trivial rfl (cs := [_, _]) rfl rfl rfl rfl ?_
 refine ya rfl rfl (Zf (ρ' := [(1, _), (2, _), (3, _)]) ⟨rfl, rfl, rfl, trivial⟩ ?_)
 refine Zc (Zd (Za (ym rfl rfl (Zv rfl rfl ?_))))
 refine Zcl trivial rfl rfl rfl ?_
 refine Zv rfl rfl ?_
 refine Zcl trivial rfl rfl rfl ?_
 refine Zv rfl rfl ?_
 refine Zcl trivial rfl rfl rfl ?_
 refine Zv rfl rfl ?_
 refine Zcl trivial rfl rfl rfl ?_
 refine Zbz 18 rfl ⟨18, 0, .inr rfl⟩ ?_
 intro b18
 refine Zbz 19 rfl ⟨19, 0, .inr rfl⟩ ?_
 intro b19
 refine Zbz 20 rfl ⟨20, 0, .inr rfl⟩ ?_
 intro b20
 refine Zbz 21 rfl ⟨21, 0, .inr rfl⟩ ?_
 intro b21
 refine Zg (Zbf rfl Tryz.f97' Tryz.z97 (ps := [(_, _), (_, _), (_, _), (_, _), (_, _)]) rfl (vs := [_, _, _, _, _]) rfl) rfl ?_
 refine Zv rfl rfl ?_
 refine Zbx trivial rfl (cs := [_, _, _, _, _]) rfl rfl rfl rfl ?_
 refine Zcs 23 rfl ?_
 intro b23 T23 u23 hle23z hu23 hpn23
 refine Zv rfl rfl ?_
 refine Zas trivial Tryz.z61 rfl rfl rfl ?_
 refine Zv rfl rfl ?_
 refine Zm trivial rfl Tryz.k61 rfl rfl rfl (vs := [_]) rfl rfl (by first | rfl | assumption | simp [Value.oneCell', str]) (Nat.le_of_ble_eq_true rfl) rfl ?_
 refine Zcs 7 rfl ?_
 intro b7 T7 u7 hle7z hu7 hpn7
 have hu23 := hle7z _ _ hu23
 have ha7 := (ha.mono hle23z).mono hle7z
 have hT7 := (hT.mono hle23z).mono hle7z
 have hp7 := (hp1.mono hle23z).mono hle7z
 refine Zf (ρ' := [(2, _), (3, _), (7, _), (21, _)]) ⟨rfl, rfl, rfl, rfl, trivial⟩ ?_
 refine Zc (Zd (Zd (Za (Zg (Zi rfl Tryz.k25 rfl rfl rfl (vs := [_, _]) rfl rfl rfl) rfl (Zv rfl rfl ?_)))))
 refine Zbm (caps := []) trivial rfl rfl Tryz.c17 rfl (FnP.mono (numbers_fn _ _ bs _ hT7 (by omega) hsm ha7) ?_)
 rintro v uN hle0 ⟨ncs, ⟨nad, ncap, rfl, hn1⟩, hn2⟩ hleN
 have hu23 := hleN _ _ hu23
 have hu7 := hleN _ _ hu7
 have hp7 := hp7.mono hleN
 refine Zg (Zaq rfl rfl Tryz.s47 rfl) rfl (ym rfl rfl (Zf (ρ' := [(2, _), (3, _), (7, _), (21, _), (25, _), (26, _), (27, _)]) ⟨rfl, rfl, rfl, rfl, rfl, rfl, rfl, trivial⟩ ?_))
 refine Zc (Zad ?_)
 refine Zbc (fun m ρ σ u' => ∃ i : Nat, i + m = (numsOf bs).length ∧ VLe uN u' ∧ ∃ (k1 : List (Value × Value)), σ = [(3, (none, .box [vm, vb])), (18, (some b18, .mp k1)), (19, (some b19, .mp [])), (20, (some b20, .mp [])), (21, (some b21, .mp []))] ∧ ρ = [(2, .v (.slice pad ps.length pcap)), (3, .p 3 0), (7, .v (.pointer (some ⟨b7, 0, none⟩))), (25, .v (.slice nad (numsOf bs).length ncap)), (26, .v (.int .i64 (numsOf bs).length)), (27, .v (.int .i64 i))] ∧ (uN = u' ∧ NumM uN k1 ((numsOf bs).take i))) ((numsOf bs).length) ?_ ?_
 ·
  refine ⟨[(2, _), (3, _), (7, _), (25, _), (26, _), (27, _)], [(3, _), (18, _), (19, _), (20, _), (21, _)], ⟨rfl, rfl, rfl, rfl, rfl, rfl, trivial⟩, ⟨rfl, rfl, rfl, rfl, rfl, trivial⟩, 0, by omega, VLe.refl _, [], rfl, rfl, ?_⟩
  exact ⟨rfl, rfl, fun s => rfl⟩
 ·
  rintro m ρ σ u' ⟨i, hi3, hle3, k1, rfl, rfl, ⟨rfl, hN1⟩⟩
  refine Zd (Za (Zg (Zbn rfl rfl rfl) rfl (Zf (ρ' := [(2, _), (3, _), (7, _), (25, _), (26, _), (27, _), (28, _)]) ⟨rfl, rfl, rfl, rfl, rfl, rfl, rfl, trivial⟩ ?_)))
  refine Zc (Zd ?_)
  refine Zo rfl (fun hb3 => ?_) (fun hb3 => ?_)
  ·
   have hlt : i < (numsOf bs).length := by have := of_decide_eq_true hb3; omega
   obtain ⟨x, xl, hg, hcut1, s1⟩ := hn2.at hlt
   have hxc : NumC uN x [str x.id, str x.kind, str x.value, xl] := ⟨xl, rfl, s1⟩
   have oneAll := hxc.one
   obtain ⟨n0, vl0, hval, hsome, _, _, hone0⟩ := hN1.val x.id
   have oneAll2 : [str n0.id, str n0.kind, str n0.value, vl0].all Value.oneCell' = true := by
    simp [hone0]
    simp [str, Value.oneCell']
   have hks := hN1.1
   have htk : (numsOf bs).take (i + 1) = (numsOf bs).take i ++ [x] := by
    obtain ⟨hl, rfl⟩ := List.getElem?_eq_some_iff.1 hg
    exact List.take_succ_eq_append_getElem hl
   refine Zr (Zc (Zd (Zad (Zd (Za (Zg (Zai rfl Tryz.s47 rfl rfl (by assumption) (by first | rfl | omega) (by omega)) rfl (Zg (Zag rfl Tryz.k50 rfl (by assumption) (by omega) (by assumption) (vs := [_, _, _, _]) rfl rfl rfl rfl) rfl (Zv rfl rfl ?_))))))))
   refine Zas trivial Tryz.z50 rfl rfl rfl ?_
   refine Zv rfl rfl ?_
   refine Zm trivial rfl Tryz.k50 rfl rfl rfl (vs := [_, _, _, _]) rfl rfl (by first | rfl | assumption | simp [Value.oneCell', str]) (Nat.le_of_ble_eq_true rfl) rfl ?_
   refine Zf (ρ' := [(2, _), (3, _), (7, _), (9, _), (25, _), (26, _), (27, _)]) ⟨rfl, rfl, rfl, rfl, rfl, rfl, rfl, trivial⟩ ?_
   refine Zc (Zd ?_)
   refine Zbk Tryz.mixed rfl [(9, _), (18, _)] ⟨rfl, rfl, trivial⟩ ?_
   refine Zal 0 rfl (by kernel_rfl) (Zb (Ze (Zb (Zb (Ze (Zb (Zp))))))) (Zbd rfl Tryz.k61 rfl (by assumption) (vs := [_]) (by first | rfl | exact hP | exact cut_at hP rfl (Nat.le_of_ble_eq_true rfl) rfl) rfl rfl) rfl ?_
   refine Zal 1 rfl (by kernel_rfl) (Zb (Ze (Zb (Zb (Ze (Zb (Zp))))))) (Zbb rfl rfl) rfl ?_
   refine Zal 2 rfl (by kernel_rfl) (Zb (Ze (Zb (Zb (Ze (Zb (Zp))))))) (Zbi rfl Tryz.f97' rfl (by decide) rfl) rfl ?_
   refine Zal 3 rfl (by kernel_rfl) (Zb (Ze (Zb (Zb (Ze (Zb (Zp))))))) (Zbd rfl Tryz.k93 rfl (by assumption) (vs := [_]) (by first | rfl | exact hP | exact cut_at hP rfl (Nat.le_of_ble_eq_true rfl) rfl) rfl rfl) rfl ?_
   refine ra_pinSM 35 18 b18 rfl rfl ?_
   refine Zal 4 rfl (by kernel_rfl) (Zb (Ze (Zb (Zb (Ze (Zb (Zp))))))) (Zh rfl Tryz.f50' rfl (by decide) rfl) rfl ?_
   refine Zal 5 rfl (by kernel_rfl) (Zb (Ze (Zb (Zb (Ze (Zb (Zp))))))) (Zi rfl Tryz.k9 rfl rfl rfl (vs := [_]) rfl rfl rfl) rfl ?_
   refine Zal 6 rfl (by kernel_rfl) (Zb (Ze (Zb (Zb (Ze (Zb (Zp))))))) (y_lookup2 rfl Tryz.m93 Tryz.str9 Tryz.v50 rfl rfl rfl rfl rfl (by assumption)) rfl ?_
   rw [hval, hsome]
   refine Zal 7 rfl (by kernel_rfl) (Zb (Ze (Zb (Zb (Ze (Zb (Zp))))))) (Zap rfl rfl) rfl ?_
   refine Zal 8 rfl (by kernel_rfl) (Zb (Ze (Zb (Zb (Ze (Zb (Zp))))))) (Zbj rfl rfl rfl) rfl ?_
   refine Zal 9 rfl (by kernel_rfl) (Zb (Ze (Zb (Zb (Ze (Zb (Zp))))))) (Zbj rfl rfl rfl) rfl ?_
   refine Zar (i := 10) rfl rfl (by kernel_rfl) ?_
   refine Zas ⟨rfl, rfl, trivial⟩ Tryz.z50 rfl rfl rfl ?_
   refine Zar (i := 11) rfl rfl (by kernel_rfl) ?_
   refine Zm ⟨rfl, rfl, trivial⟩ rfl Tryz.k50 rfl rfl rfl (vs := [_, _, _, _]) rfl rfl (by first | rfl | assumption | simp [Value.oneCell', str]) (Nat.le_of_ble_eq_true rfl) rfl ?_
   refine Zal 12 rfl (by kernel_rfl) (Zb (Ze (Zb (Zb (Ze (Zb (Zp))))))) (Zcf rfl rfl) rfl ?_
   refine Zbl (by kernel_rfl) (ρ' := [(2, _), (3, _), (7, _), (9, _), (11, _), (25, _), (26, _), (27, _)]) ⟨rfl, rfl, rfl, rfl, rfl, rfl, rfl, rfl, trivial⟩ ?_
   refine Zc (Zd ?_)
   refine Zcj 47 (decide ((numFor ((numsOf bs).take i) x.id).isSome = false ∧ x.kind ≠ notS)) (ρk := [(2, _), (3, _), (7, _), (9, _), (25, _), (26, _), (27, _)]) ⟨rfl, rfl, rfl, rfl, rfl, rfl, rfl, trivial⟩ ?_ ?_
   ·
    refine Za (ym rfl rfl (Zg (Zbr rfl rfl) rfl (ym rfl rfl ?_)))
    rcases Bool.eq_false_or_eq_true (!(numFor ((numsOf bs).take i) x.id).isSome) with hg6_2 | hg6_2
    ·
     simp only [hg6_2]
     refine Zk rfl rfl (Zg (Zh rfl Tryz.f50' rfl (by decide) rfl) rfl (Zk rfl rfl (Zg (Zi rfl Tryz.k9 rfl rfl rfl (vs := [_]) rfl rfl rfl) rfl (Zk rfl rfl (Zg (Zbv rfl rfl rfl) rfl (Zg (Zl rfl rfl rfl) rfl ?_))))))
     exact Zam rfl ⟨rfl, rfl, rfl, rfl, rfl, rfl, rfl, trivial⟩ (by revert hg6_2; cases (numFor ((numsOf bs).take i) x.id).isSome <;> simp [notS])
    ·
     simp only [hg6_2]
     iterate 3 refine Zt rfl rfl rfl rfl ?_
     refine Zg (Zn rfl rfl rfl) rfl ?_
     exact Zam rfl ⟨rfl, rfl, rfl, rfl, rfl, rfl, rfl, trivial⟩ (by revert hg6_2; cases (numFor ((numsOf bs).take i) x.id).isSome <;> simp [notS])
   refine Zc ?_
   refine Zo rfl (fun hb6 => ?_) (fun hb6 => ?_)
   ·
    have h6 := of_decide_eq_true hb6
    refine Zbk Tryz.mixed rfl [(9, _)] ⟨rfl, trivial⟩ ?_
    refine Zal 0 rfl (by kernel_rfl) (Ze (Zb (Zb (Ze (Zb (Zp)))))) (Zbd rfl Tryz.k61 rfl (by assumption) (vs := [_]) (by first | rfl | exact hP | exact cut_at hP rfl (Nat.le_of_ble_eq_true rfl) rfl) rfl rfl) rfl ?_
    refine Zal 1 rfl (by kernel_rfl) (Ze (Zb (Zb (Ze (Zb (Zp)))))) (Zbb rfl rfl) rfl ?_
    refine Zal 2 rfl (by kernel_rfl) (Ze (Zb (Zb (Ze (Zb (Zp)))))) (Zbi rfl Tryz.f97' rfl (by decide) rfl) rfl ?_
    refine Zal 3 rfl (by kernel_rfl) (Ze (Zb (Zb (Ze (Zb (Zp)))))) (Zbd rfl Tryz.k93 rfl (by assumption) (vs := [_]) (by first | rfl | exact hP | exact cut_at hP rfl (Nat.le_of_ble_eq_true rfl) rfl) rfl rfl) rfl ?_
    refine ra_pinSM 51 18 b18 rfl rfl ?_
    refine Zal 4 rfl (by kernel_rfl) (Ze (Zb (Zb (Ze (Zb (Zp)))))) (Zh rfl Tryz.f50' rfl (by decide) rfl) rfl ?_
    refine Zal 5 rfl (by kernel_rfl) (Ze (Zb (Zb (Ze (Zb (Zp)))))) (Zi rfl Tryz.k9 rfl rfl rfl (vs := [_]) rfl rfl rfl) rfl ?_
    refine Zal 6 rfl (by kernel_rfl) (Ze (Zb (Zb (Ze (Zb (Zp)))))) (Zi rfl Tryz.k50 rfl rfl rfl (vs := [_, _, _, _]) rfl rfl rfl) rfl ?_
    refine Zar (i := 7) rfl rfl (by kernel_rfl) ?_
    refine Zcb ⟨rfl, trivial⟩ rfl Tryz.m93 Tryz.str9 rfl rfl rfl rfl rfl (by assumption) ?_
    refine Zbl (by kernel_rfl) (ρ' := [(2, _), (3, _), (7, _), (25, _), (26, _), (27, _)]) ⟨rfl, rfl, rfl, rfl, rfl, rfl, trivial⟩ ?_
    refine Zah (Zc (Za (Zg (Zav rfl rfl rfl (Zs (by omega))) rfl ?_)))
    refine ym rfl rfl (Zf (ρ' := [(2, _), (3, _), (7, _), (25, _), (26, _), (27, _)]) ⟨rfl, rfl, rfl, rfl, rfl, rfl, trivial⟩ ?_)
    refine Zab ?_
    refine ⟨m - 1, [(2, _), (3, _), (7, _), (25, _), (26, _), (27, _)], [(3, _), (18, _), (19, _), (20, _), (21, _)], by omega, ⟨rfl, rfl, rfl, rfl, rfl, rfl, trivial⟩, ⟨rfl, rfl, rfl, rfl, rfl, trivial⟩, i + 1, by omega, hle3, _, (by first | rfl | simp), (by first | rfl | (simp only [List.cons.injEq, Prod.mk.injEq, SV.v.injEq, Value.int.injEq, true_and, and_true]; omega) | simp), ?_⟩
    rw [htk]
    first
     | exact ⟨rfl, hN1.add hxc (by simpa using h6.1) h6.2⟩
     | exact ⟨rfl, hN1.skip h6⟩
   ·
    have h6 := of_decide_eq_false hb6
    refine Zr (Zah (Zc (Za (Zg (Zav rfl rfl rfl (Zs (by omega))) rfl ?_))))
    refine ym rfl rfl (Zf (ρ' := [(2, _), (3, _), (7, _), (25, _), (26, _), (27, _)]) ⟨rfl, rfl, rfl, rfl, rfl, rfl, trivial⟩ ?_)
    refine Zab ?_
    refine ⟨m - 1, [(2, _), (3, _), (7, _), (25, _), (26, _), (27, _)], [(3, _), (18, _), (19, _), (20, _), (21, _)], by omega, ⟨rfl, rfl, rfl, rfl, rfl, rfl, trivial⟩, ⟨rfl, rfl, rfl, rfl, rfl, trivial⟩, i + 1, by omega, hle3, _, (by first | rfl | simp), (by first | rfl | (simp only [List.cons.injEq, Prod.mk.injEq, SV.v.injEq, Value.int.injEq, true_and, and_true]; omega) | simp), ?_⟩
    rw [htk]
    first
     | exact ⟨rfl, hN1.add hxc (by simpa using h6.1) h6.2⟩
     | exact ⟨rfl, hN1.skip h6⟩
  ·
   have hge := of_decide_eq_false hb3
   rw [List.take_of_length_le (by omega)] at hN1
   refine Zax ?_
   refine Zq (Zq ?_)
   refine Zaf ?_
   refine Zc (Zd (Zd (Za (ym rfl rfl (Zg (Zaq rfl rfl Tryz.s22 rfl) rfl (ym rfl rfl (Zf (ρ' := [(3, _), (7, _), (56, _), (57, _), (58, _)]) ⟨rfl, rfl, rfl, rfl, rfl, trivial⟩ ?_)))))))
   refine Zc (Zad ?_)
   refine Zbc (fun m ρ σ u' => ∃ j : Nat, j + m = ps.length ∧ VLe uN u' ∧ ∃ (k3 : List (Value × Value)), σ = [(3, (none, .box [vm, vb])), (18, (some b18, .mp k1)), (19, (some b19, .mp [])), (20, (some b20, .mp k3)), (21, (some b21, .mp []))] ∧ ρ = [(3, .p 3 0), (7, .v (.pointer (some ⟨b7, 0, none⟩))), (56, .v (.slice pad ps.length pcap)), (57, .v (.int .i64 ps.length)), (58, .v (.int .i64 j))] ∧ (uN = u' ∧ PlM k3 (ps.take j))) (ps.length) ?_ ?_
   ·
    refine ⟨[(3, _), (7, _), (56, _), (57, _), (58, _)], [(3, _), (18, _), (19, _), (20, _), (21, _)], ⟨rfl, rfl, rfl, rfl, rfl, trivial⟩, ⟨rfl, rfl, rfl, rfl, rfl, trivial⟩, 0, by omega, VLe.refl _, [], rfl, rfl, ?_⟩
    exact ⟨rfl, rfl, fun s => rfl⟩
   ·
    rintro mj ρ σ u' ⟨j, hi10, hle10, k3, rfl, rfl, ⟨rfl, hP3⟩⟩
    refine Zd (Za (Zg (Zbn rfl rfl rfl) rfl (Zf (ρ' := [(3, _), (7, _), (56, _), (57, _), (58, _), (59, _)]) ⟨rfl, rfl, rfl, rfl, rfl, rfl, trivial⟩ ?_)))
    refine Zc (Zd ?_)
    refine Zo rfl (fun hb10 => ?_) (fun hb10 => ?_)
    ·
     have hlt2 : j < ps.length := by have := of_decide_eq_true hb10; omega
     have hg2 := List.getElem?_eq_getElem hlt2
     have hcut2 := cut_pairsC hg2
     obtain ⟨hval2, hsome2⟩ := hP3.val (ps[j]).1
     have hks := hP3.1
     have htk2 := List.take_succ_eq_append_getElem hlt2
     refine Zr (Zc (Zd (Zad (Zd (Za (Zg (Zai rfl Tryz.s22 rfl rfl (by assumption) (by first | rfl | omega) (by omega)) rfl (Zg (Zag rfl Tryz.k56 rfl (by assumption) (by omega) (by assumption) (vs := [_, _]) rfl rfl rfl rfl) rfl (Zv rfl rfl ?_))))))))
     refine Zas trivial Tryz.z56 rfl rfl rfl ?_
     refine Zv rfl rfl ?_
     refine Zm trivial rfl Tryz.k56 rfl rfl rfl (vs := [_, _]) rfl rfl (by first | rfl | assumption | simp [Value.oneCell', str]) (Nat.le_of_ble_eq_true rfl) rfl ?_
     refine Zf (ρ' := [(3, _), (7, _), (13, _), (56, _), (57, _), (58, _)]) ⟨rfl, rfl, rfl, rfl, rfl, rfl, trivial⟩ ?_
     refine Zc (Zd ?_)
     refine Zbk Tryz.mixed rfl [(13, _), (20, _)] ⟨rfl, rfl, trivial⟩ ?_
     refine Zal 0 rfl (by kernel_rfl) (Zb (Ze (Zb (Zb (Ze (Zb (Zp))))))) (Zbd rfl Tryz.k61 rfl (by assumption) (vs := [_]) (by first | rfl | exact hP | exact cut_at hP rfl (Nat.le_of_ble_eq_true rfl) rfl) rfl rfl) rfl ?_
     refine Zal 1 rfl (by kernel_rfl) (Zb (Ze (Zb (Zb (Ze (Zb (Zp))))))) (Zbb rfl rfl) rfl ?_
     refine Zal 2 rfl (by kernel_rfl) (Zb (Ze (Zb (Zb (Ze (Zb (Zp))))))) (Zbi rfl Tryz.f97' rfl (by decide) rfl) rfl ?_
     refine Zal 3 rfl (by kernel_rfl) (Zb (Ze (Zb (Zb (Ze (Zb (Zp))))))) (Zbd rfl Tryz.k95 rfl (by assumption) (vs := [_]) (by first | rfl | exact hP | exact cut_at hP rfl (Nat.le_of_ble_eq_true rfl) rfl) rfl rfl) rfl ?_
     refine ra_pinSM 66 20 b20 rfl rfl ?_
     refine Zal 4 rfl (by kernel_rfl) (Zb (Ze (Zb (Zb (Ze (Zb (Zp))))))) (Zh rfl Tryz.f56' rfl (by decide) rfl) rfl ?_
     refine Zal 5 rfl (by kernel_rfl) (Zb (Ze (Zb (Zb (Ze (Zb (Zp))))))) (Zi rfl Tryz.k9 rfl rfl rfl (vs := [_]) rfl rfl rfl) rfl ?_
     refine Zal 6 rfl (by kernel_rfl) (Zb (Ze (Zb (Zb (Ze (Zb (Zp))))))) (y_lookup2 rfl Tryz.m95 Tryz.str9 Tryz.v9 rfl rfl rfl rfl rfl (by assumption)) rfl ?_
     rw [hval2, hsome2]
     refine Zal 7 rfl (by kernel_rfl) (Zb (Ze (Zb (Zb (Ze (Zb (Zp))))))) (Zap rfl rfl) rfl ?_
     refine Zal 8 rfl (by kernel_rfl) (Zb (Ze (Zb (Zb (Ze (Zb (Zp))))))) (Zbj rfl rfl rfl) rfl ?_
     refine Zal 9 rfl (by kernel_rfl) (Zb (Ze (Zb (Zb (Ze (Zb (Zp))))))) (Zbj rfl rfl rfl) rfl ?_
     refine Zal 10 rfl (by kernel_rfl) (Zb (Ze (Zb (Zb (Ze (Zb (Zp))))))) (Zcf rfl rfl) rfl (Zal 11 rfl (by kernel_rfl) (Zb (Ze (Zb (Zb (Ze (Zb (Zp))))))) (Zcf rfl rfl) rfl ?_)
     refine Zbl (by kernel_rfl) (ρ' := [(3, _), (7, _), (13, _), (15, _), (56, _), (57, _), (58, _)]) ⟨rfl, rfl, rfl, rfl, rfl, rfl, rfl, trivial⟩ ?_
     refine Zc (Zd (Za (ym rfl rfl (Zg (Zbr rfl rfl) rfl (Zf (ρ' := [(3, _), (7, _), (13, _), (56, _), (57, _), (58, _), (73, _)]) ⟨rfl, rfl, rfl, rfl, rfl, rfl, rfl, trivial⟩ ?_)))))
     refine Zc ?_
     refine Zo rfl (fun hb13 => ?_) (fun hb13 => ?_)
     ·
      have h13 : (placeOf (ps.take j) (ps[j]).1).isSome = false := (by simpa using hb13)
      refine Zbk Tryz.mixed rfl [(13, _)] ⟨rfl, trivial⟩ ?_
      refine Zal 0 rfl (by kernel_rfl) (Ze (Zb (Zb (Ze (Zb (Zp)))))) (Zbd rfl Tryz.k61 rfl (by assumption) (vs := [_]) (by first | rfl | exact hP | exact cut_at hP rfl (Nat.le_of_ble_eq_true rfl) rfl) rfl rfl) rfl ?_
      refine Zal 1 rfl (by kernel_rfl) (Ze (Zb (Zb (Ze (Zb (Zp)))))) (Zbb rfl rfl) rfl ?_
      refine Zal 2 rfl (by kernel_rfl) (Ze (Zb (Zb (Ze (Zb (Zp)))))) (Zbi rfl Tryz.f97' rfl (by decide) rfl) rfl ?_
      refine Zal 3 rfl (by kernel_rfl) (Ze (Zb (Zb (Ze (Zb (Zp)))))) (Zbd rfl Tryz.k95 rfl (by assumption) (vs := [_]) (by first | rfl | exact hP | exact cut_at hP rfl (Nat.le_of_ble_eq_true rfl) rfl) rfl rfl) rfl ?_
      refine ra_pinSM 77 20 b20 rfl rfl ?_
      refine Zal 4 rfl (by kernel_rfl) (Ze (Zb (Zb (Ze (Zb (Zp)))))) (Zh rfl Tryz.f56' rfl (by decide) rfl) rfl ?_
      refine Zal 5 rfl (by kernel_rfl) (Ze (Zb (Zb (Ze (Zb (Zp)))))) (Zi rfl Tryz.k9 rfl rfl rfl (vs := [_]) rfl rfl rfl) rfl ?_
      refine Zal 6 rfl (by kernel_rfl) (Ze (Zb (Zb (Ze (Zb (Zp)))))) (Zh rfl Tryz.f56' rfl (by decide) rfl) rfl ?_
      refine Zal 7 rfl (by kernel_rfl) (Ze (Zb (Zb (Ze (Zb (Zp)))))) (Zi rfl Tryz.k9 rfl rfl rfl (vs := [_]) rfl rfl rfl) rfl ?_
      refine Zar (i := 8) rfl rfl (by kernel_rfl) ?_
      refine Zcb ⟨rfl, trivial⟩ rfl Tryz.m95 Tryz.str9 rfl rfl rfl rfl rfl (by assumption) ?_
      refine Zbl (by kernel_rfl) (ρ' := [(3, _), (7, _), (56, _), (57, _), (58, _)]) ⟨rfl, rfl, rfl, rfl, rfl, trivial⟩ ?_
      refine Zah (Zc (Za (Zg (Zav rfl rfl rfl (Zs (by omega))) rfl ?_)))
      refine ym rfl rfl (Zf (ρ' := [(3, _), (7, _), (56, _), (57, _), (58, _)]) ⟨rfl, rfl, rfl, rfl, rfl, trivial⟩ ?_)
      refine Zab ?_
      refine ⟨mj - 1, [(3, _), (7, _), (56, _), (57, _), (58, _)], [(3, _), (18, _), (19, _), (20, _), (21, _)], by omega, ⟨rfl, rfl, rfl, rfl, rfl, trivial⟩, ⟨rfl, rfl, rfl, rfl, rfl, trivial⟩, j + 1, by omega, hle10, _, (by first | rfl | simp), (by first | rfl | (simp only [List.cons.injEq, Prod.mk.injEq, SV.v.injEq, Value.int.injEq, true_and, and_true]; omega) | simp), ?_⟩
      rw [htk2]
      first
       | exact ⟨rfl, hP3.add (by simpa using h13)⟩
       | exact ⟨rfl, hP3.skip h13⟩
     ·
      have h13 : (placeOf (ps.take j) (ps[j]).1).isSome = true := (by simpa using hb13)
      refine Zr (Zah (Zc (Za (Zg (Zav rfl rfl rfl (Zs (by omega))) rfl ?_))))
      refine ym rfl rfl (Zf (ρ' := [(3, _), (7, _), (56, _), (57, _), (58, _)]) ⟨rfl, rfl, rfl, rfl, rfl, trivial⟩ ?_)
      refine Zab ?_
      refine ⟨mj - 1, [(3, _), (7, _), (56, _), (57, _), (58, _)], [(3, _), (18, _), (19, _), (20, _), (21, _)], by omega, ⟨rfl, rfl, rfl, rfl, rfl, trivial⟩, ⟨rfl, rfl, rfl, rfl, rfl, trivial⟩, j + 1, by omega, hle10, _, (by first | rfl | simp), (by first | rfl | (simp only [List.cons.injEq, Prod.mk.injEq, SV.v.injEq, Value.int.injEq, true_and, and_true]; omega) | simp), ?_⟩
      rw [htk2]
      first
       | exact ⟨rfl, hP3.add (by simpa using h13)⟩
       | exact ⟨rfl, hP3.skip h13⟩
    ·
     have hge2 := of_decide_eq_false hb10
     rw [List.take_of_length_le (by omega)] at hP3
     refine Zax ?_
     refine Zq (Zq ?_)
     refine Zaf ?_
     refine Zc (Zd (Za (Zg (Zbt rfl rfl rfl) rfl (Zv rfl rfl ?_))))
     refine Zas trivial Tryz.z100 rfl rfl rfl ?_
     refine Zv rfl rfl ?_
     refine Zm trivial rfl Tryz.k100 rfl rfl rfl (vs := [_]) rfl rfl (by first | rfl | assumption | simp [Value.oneCell', str]) (Nat.le_of_ble_eq_true rfl) rfl ?_
     refine Zcs 16 rfl ?_
     intro b16 T16 u16 hle16z hu16 hpn16
     have hu23 := hle16z _ _ hu23
     have hu7 := hle16z _ _ hu7
     have ha16 := (ha7.mono hleN).mono hle16z
     refine Zf (ρ' := [(3, _), (7, _), (16, _)]) ⟨rfl, rfl, rfl, trivial⟩ ?_
     refine Zc (Zd (Za (Zg (Zbt rfl rfl rfl) rfl (Zg (Zbt rfl rfl rfl) rfl (Zg (Zbf rfl Tryz.f82' Tryz.z82 (ps := [(_, _), (_, _)]) rfl (vs := [_, _]) rfl) rfl ?_)))))
     refine Zg (Zh rfl Tryz.f25' rfl (by decide) rfl) rfl (Zg (Zi rfl Tryz.k23 rfl rfl rfl (vs := [_]) rfl rfl rfl) rfl (Zv rfl rfl ?_))
     refine Zaj (caps := []) (ρ' := [(7, _)]) [19] [] trivial rfl rfl rfl Tryz.c44 rfl rfl ⟨rfl, trivial⟩ rfl rfl rfl (FnO.mono (vBlk_fn _ _ b19 headsY headsY_mono (szB bs) _ bs [] _ u16 (Nat.le_refl _) (by simp; omega) ha16 (.inr ⟨56, [.pointer (some ⟨b16, 0, none⟩)], rfl, Tryz.c56, fun pre o u' p x hle hl hY hp ↦ headsB_fn b16 b7 b23 b19 b18 b20 b21 lang u16 _ _ _ _ _ _ hu16 hu7 hu23 pre o u' p x hle hl hY hp⟩) (.inr ⟨57, [.pointer (some ⟨b16, 0, none⟩)], rfl, Tryz.c57, fun pre o u' p x hle hl hY hp ↦ headsI_fn b16 b7 b23 b19 b18 b20 b21 lang u16 _ _ _ _ _ _ hu16 hu7 hu23 pre o u' p x hle hl hY hp⟩) ⟨[], rfl, rfl, fun s ↦ rfl⟩) ?_)
     rintro v uV l1 hleV ⟨rfl, oV, rfl, ⟨k2, rfl, hk2⟩⟩ -
     refine ⟨⟨fun _ h => h, trivial⟩, ?_⟩
     have hu23 := hleV _ _ hu23
     have hu7 := hleV _ _ hu7
     have hk2 : HdM uV k2 (evB bs) := by simpa using hk2
     refine Zf (ρ' := [(7, _)]) ⟨rfl, trivial⟩ ?_
     refine Zc (Zd (Za (Zg (Zbd rfl Tryz.k61 rfl (by assumption) (vs := [_]) (by first | rfl | exact hP | exact cut_at hP rfl (Nat.le_of_ble_eq_true rfl) rfl) rfl rfl) rfl ?_)))
     refine rl_freezeM 18 rfl ?_
     intro b18 u18 hle18z hm18 hpn18
     refine rl_freezeM 19 rfl ?_
     intro b19 u19 hle19z hm19 hpn19
     refine rl_freezeM 20 rfl ?_
     intro b20 u20 hle20z hm20 hpn20
     obtain rfl := hpn18 _ rfl
     obtain rfl := hpn19 _ rfl
     obtain rfl := hpn20 _ rfl
     have w1 := hle18z.trans (hle19z.trans hle20z)
     have w2 := hle19z.trans hle20z
     refine ya rfl rfl (Zf (ρ' := [(6, _)]) ⟨rfl, trivial⟩ ?_)
     refine Zc (Zw ?_)
     refine finO1 [21] (.tmp rfl) rfl rfl ?_
     exact ⟨b21, rfl, b23, b18, b19, b20, _, _, _, _, _, rfl, w1 _ _ hu23, hm18.mono w2, hN1.mono (hle16z.trans (hleV.trans w1)), hm19.mono hle20z, hk2.mono w1, hm20, hP3⟩
theorem missOf_len (bs : List Blk) : (missOf bs).length ≤ szB bs := by
 have := missE_len (namesOf bs) (noteNames (listB bs)) (evB bs)
 rw [evB_len] at this
 exact this
theorem namesOf_len (bs : List Blk) : (namesOf bs).length ≤ szB bs := by
 have := namesE_len (evB bs)
 rw [evB_len] at this
 exact this
theorem labCheck_fn (vm vb : Value) (bs : List Blk) (u : View) (hbig : szB bs ≤ 100000) (ha : BlkS u vb bs) :
  FnP Tryz.prog 14 [.agg #[vm, vb]] u fun r _ => r = .tuple #[str (checkOf bs).1, .int .i64 (checkOf bs).2] := by
 have hnl := namesOf_len bs
 have hml := missOf_len bs
 refine FnP.intro [.tmp 2, .tmp 3] Tryz.func14 rfl rfl rfl ?_
 intro w0 D hw0
 refine Zd (Za (Zv rfl rfl ?_))
 refine Zbx trivial rfl (cs := [_, _]) rfl rfl rfl rfl ?_
 refine ya rfl rfl (ya rfl rfl (Zf (ρ' := [(1, _)]) ⟨rfl, trivial⟩ ?_))
 refine Zc (Zd (Za (Zv rfl rfl ?_)))
 refine Zcl trivial rfl rfl rfl ?_
 refine ya rfl rfl (Zf (ρ' := [(1, _), (4, _)]) ⟨rfl, rfl, trivial⟩ ?_)
 refine Zc (Zd (Zd (Za (Zg (Zi rfl Tryz.k25 rfl rfl rfl (vs := [_, _]) rfl rfl rfl) rfl (Zv rfl rfl ?_)))))
 refine Zbm (caps := []) trivial rfl rfl Tryz.c16 rfl (FnP.mono (labNames_fn vm vb bs _ hbig ha) ?_)
 rintro v uN hle0 ⟨adn, capn, rfl, hn⟩ hleN
 refine Zg (Zaq rfl rfl Tryz.s37 rfl) rfl (ym rfl rfl (Zf (ρ' := [(1, _), (4, _), (10, _), (11, _), (12, _)]) ⟨rfl, rfl, rfl, rfl, rfl, trivial⟩ ?_))
 refine Zc (Zad ?_)
 refine Zbc (fun m ρ σ u' => ∃ i : Nat, i + m = (namesOf bs).length ∧ VLe uN u' ∧ ∃ (ki : List (Value × Value)), σ = [(1, (none, .box [vm, vb])), (8, (none, .mp ki))] ∧ ρ = [(1, .p 1 0), (4, .m 8), (10, .v (.slice adn (namesOf bs).length capn)), (11, .v (.int .i64 (namesOf bs).length)), (12, .v (.int .i64 i))] ∧ (uN = u' ∧ SetM ki ((namesOf bs).take i) ∧ twice [] (namesOf bs) = twice ((namesOf bs).take i) ((namesOf bs).drop i))) ((namesOf bs).length) ?_ ?_
 ·
  refine ⟨[(1, _), (4, _), (10, _), (11, _), (12, _)], [(1, _), (8, _)], ⟨rfl, rfl, rfl, rfl, rfl, trivial⟩, ⟨rfl, rfl, trivial⟩, 0, by omega, VLe.refl _, [], rfl, rfl, ?_⟩
  exact ⟨rfl, SetM.nil, by simp⟩
 ·
  rintro m ρ σ u' ⟨i, hi3, hle3, ki, rfl, rfl, ⟨rfl, hSi, htw⟩⟩
  refine Zd (Za (Zg (Zbn rfl rfl rfl) rfl (Zf (ρ' := [(1, _), (4, _), (10, _), (11, _), (12, _), (13, _)]) ⟨rfl, rfl, rfl, rfl, rfl, rfl, trivial⟩ ?_)))
  refine Zc (Zd ?_)
  refine Zo rfl (fun hb3 => ?_) (fun hb3 => ?_)
  ·
   have hlt : i < (namesOf bs).length := (by have := of_decide_eq_true hb3; omega); have hg := List.getElem?_eq_getElem hlt; have hcut := cut_strsC hg; have hk := hSi.1
   refine Zr (Zc (Zd (Zad (Zd (Za (Zg (Zai rfl Tryz.s37 rfl rfl (by assumption) (by first | rfl | omega) (by omega)) rfl (Zg (Zag rfl Tryz.k9 rfl (by assumption) (by omega) (by assumption) (vs := [_]) rfl rfl rfl rfl) rfl ?_)))))))
   refine ya rfl rfl (Zf (ρ' := [(1, _), (4, _), (6, _), (10, _), (11, _), (12, _)]) ⟨rfl, rfl, rfl, rfl, rfl, rfl, trivial⟩ ?_)
   refine Zc (Zd (Zd (Za (ym rfl rfl (ym rfl rfl (Zg (y_lookup rfl Tryz.m75 Tryz.str9 Tryz.v4 rfl rfl rfl rfl rfl (by assumption)) rfl ?_))))))
   rw [hSi.2 _]
   refine Zf (ρ' := [(1, _), (4, _), (6, _), (10, _), (11, _), (12, _), (18, _)]) ⟨rfl, rfl, rfl, rfl, rfl, rfl, rfl, trivial⟩ ?_
   refine Zc ?_
   refine Zo rfl (fun hb5 => ?_) (fun hb5 => ?_)
   ·
    have h5 := of_decide_eq_true hb5; have htw2 := twice_hit hg h5 htw
    refine Zd (Za (ym rfl rfl (ya rfl rfl (ya rfl rfl (Zf (ρ' := [(2, _), (3, _)]) ⟨rfl, rfl, trivial⟩ ?_)))))
    refine Zc (Zw (Zj (Zu (Zj (Zj (Zu (Zj ?_)))))))
    refine fin2 (.tmp rfl) (.tmp rfl) ?_
    unfold checkOf; rw [htw2]
   ·
    have h5 := of_decide_eq_false hb5; have htw2 := twice_take hg h5 htw
    refine Zr (Zc (Za (ym rfl rfl (ym rfl rfl (Zv rfl rfl ?_)))))
    refine Zcb trivial rfl Tryz.m75 Tryz.str9 rfl rfl rfl rfl rfl (by assumption) ?_
    refine Zf (ρ' := [(1, _), (4, _), (10, _), (11, _), (12, _)]) ⟨rfl, rfl, rfl, rfl, rfl, trivial⟩ ?_
    refine Zah (Zc (Za (Zg (Zav rfl rfl rfl (Zs (by omega))) rfl ?_)))
    refine ym rfl rfl (Zf (ρ' := [(1, _), (4, _), (10, _), (11, _), (12, _)]) ⟨rfl, rfl, rfl, rfl, rfl, trivial⟩ ?_)
    refine Zab ?_
    refine ⟨m - 1, [(1, _), (4, _), (10, _), (11, _), (12, _)], [(1, _), (8, _)], by omega, ⟨rfl, rfl, rfl, rfl, rfl, trivial⟩, ⟨rfl, rfl, trivial⟩, i + 1, by omega, hle3, _, (by first | rfl | simp), (by first | rfl | (simp only [List.cons.injEq, Prod.mk.injEq, SV.v.injEq, Value.int.injEq, true_and, and_true]; omega) | simp), ?_⟩
    exact ⟨rfl, by rw [List.take_succ_eq_append_getElem hlt]; exact hSi.add _, htw2⟩
  ·
   have hge := of_decide_eq_false hb3; rw [List.drop_eq_nil_of_le (by omega), twice] at htw
   refine Zax ?_
   refine Zq (Zq ?_)
   refine Zaf ?_
   refine Zc (Zd (Zd (Za (Zg (Zi rfl Tryz.k25 rfl rfl rfl (vs := [_, _]) rfl rfl rfl) rfl (Zv rfl rfl ?_)))))
   refine Zbm (caps := []) trivial rfl rfl Tryz.c40 rfl (FnP.mono (missing_fn vm vb bs _ hbig (ha.mono hleN)) ?_)
   rintro v uM hle0 ⟨adm, capm, rfl, hm⟩ hleM
   refine ya rfl rfl (Zf (ρ' := [(7, _)]) ⟨rfl, trivial⟩ ?_)
   refine Zc (Zd (Za (ym rfl rfl (Zg (Zaq rfl rfl Tryz.s37 rfl) rfl (Zg (Zcn rfl rfl rfl) rfl (Zf (ρ' := [(7, _), (27, _)]) ⟨rfl, rfl, trivial⟩ ?_))))))
   refine Zc ?_
   refine Zo rfl (fun hb10 => ?_) (fun hb10 => ?_)
   ·
    have h10 := of_decide_eq_true hb10
    refine Zd ?_
    obtain ⟨m0, mr, hmo⟩ : ∃ m0 mr, missOf bs = m0 :: mr := by
     cases h : missOf bs with
     | nil => rw [h] at h10; simp at h10
     | cons a b => exact ⟨a, b, rfl⟩
    have hcut := cut_strsC (xs := missOf bs) (i := 0) (x := m0) (by rw [hmo]; rfl)
    have hck : checkOf bs = (m0, 12) := by unfold checkOf; rw [htw, hmo]
    have hpos : 0 < (missOf bs).length := by omega
    refine Za (ym rfl rfl (Zg (Zai rfl Tryz.s37 rfl rfl (by assumption) (j := 0) rfl (by omega)) rfl (Zg (Zag rfl Tryz.k9 rfl (by assumption) (by omega) (by assumption) (vs := [_]) rfl rfl rfl rfl) rfl (ya rfl rfl (ya rfl rfl (Zf (ρ' := [(2, _), (3, _)]) ⟨rfl, rfl, trivial⟩ ?_))))))
    refine Zc (Zw (Zj ?_))
    refine fin2 (.tmp rfl) (.tmp rfl) ?_
    rw [hck]
   ·
    have h10 := of_decide_eq_false hb10
    refine Zr (Zc (Zd (Za (ya rfl rfl (ya rfl rfl (Zf (ρ' := [(2, _), (3, _)]) ⟨rfl, rfl, trivial⟩ ?_))))))
    refine Zc (Zw ?_)
    refine fin2 (.tmp rfl) (.tmp rfl) ?_
    have hmo : missOf bs = [] := List.eq_nil_of_length_eq_zero (by omega)
    unfold checkOf
    rw [htw, hmo]
    rfl
def NsP (l : List DNum) : Prop := ∀ n ∈ l, n.id.length ≤ 100000 ∧ n.kind.length ≤ 100000 ∧ n.value.length ≤ 100000
theorem NsP.snoc {l : List DNum} {x : DNum} (h : NsP l) (hx : x.id.length ≤ 100000 ∧ x.kind.length ≤ 100000 ∧ x.value.length ≤ 100000) : NsP (l ++ [x]) := by
 intro y hy
 rcases List.mem_append.1 hy with h1 | h1
 ·
  exact h y h1
 ·
  rw [List.mem_singleton.1 h1]; exact hx
theorem longN_id (a : DAttr) : a.id.length ≤ longN a := by unfold longN; omega
theorem kindS_len (n : Nat) : (kindS n).length ≤ 10 := by
 unfold kindS
 by_cases h : n = 1
 ·
  rw [if_pos h]; decide
 ·
  rw [if_neg h]
  by_cases h : n = 2
  ·
   rw [if_pos h]; decide
  ·
   rw [if_neg h]; decide
mutual
theorem numb1_ns {free : Bool} : ∀ (b : Blk) (B : Nat) (x : Cs), smB1 b → B + szb b ≤ 90000 → CsLe B x → NsP x.out → NsP (numb1 free x b).out
 | .mk k lv inf t d ti a line kids, B, x, hs, hb, hx, h => by
  unfold smB1 at hs
  simp only [szb] at hb
  have hid := longN_id a
  simp only [numb1]
  obtain ⟨q1, q2⟩ := headStep_le (free := free) (k := k) (lv := lv) (a := a) (line := line) hx
  have q3 := step_le (free := free) (k := k) (lv := lv) (inf := inf) (a := a) (line := line) (kids := kids) hx
  refine numbB_ns kids (B + 1) _ hs.2.2.2.2.2 (by omega) q3 ?_
  have h1 : NsP (headStep free k lv a line x).out := by
   unfold headStep at q1 ⊢
   split
   ·
    rename_i hc
    rw [if_pos hc] at q1
    refine h.snoc ⟨by show a.id.length ≤ _; omega, by show (secS).length ≤ _; decide, ?_⟩
    have := valF_len (f := ctrF x.f (clampL lv)) (fun j => by have := q1.1 j; exact Nat.le_trans this (by omega)) (clampL lv)
    have := (clampL_le lv).2
    show (valF (ctrF x.f (clampL lv)) (clampL lv)).length ≤ _
    omega
   ·
    exact h
  unfold kindStep
  split
  ·
   refine h1.snoc ⟨by show a.id.length ≤ _; omega, ?_, ?_⟩
   ·
    have := kindS_len (kindN k inf a.id)
    show (kindS (kindN k inf a.id)).length ≤ _
    omega
   ·
    have := q1.2.1 (kindN k inf a.id)
    have h3 := dec_len10 5 ((headStep free k lv a line x).g (kindN k inf a.id) + 1) (by omega)
    show (dec _).length ≤ _
    omega
  ·
   exact h1
theorem numbB_ns {free : Bool} : ∀ (bs : List Blk) (B : Nat) (x : Cs), smB bs → B + szB bs ≤ 90000 → CsLe B x → NsP x.out → NsP (numbB free x bs).out
 | [], B, x, _, _, _, h => by simpa [numbB] using h
 | b :: bs, B, x, hs, hb, hx, h => by
  unfold smB at hs
  simp only [szB] at hb
  simp only [numbB]
  exact numbB_ns bs (B + szb b) _ hs.2 (by omega) (numb1_le b B x hx) (numb1_ns b B x hs.1 (by omega) hx h)
end
theorem notesIn_mem (D : List Bs) (xs : List Inl) : ∀ s ∈ notesIn D xs, s ∈ D := by
 have key : ∀ (xs : List Inl) (out : List Bs), (∀ s ∈ out, s ∈ D) → ∀ s ∈ xs.foldl (noteStep D) out, s ∈ D := by
  intro xs
  induction xs with
  | nil => intro out h; simpa using h
  | cons x xs ih =>
   intro out h
   rw [List.foldl_cons]
   refine ih _ ?_
   obtain ⟨k, t, d, ti, a, args, cites, kids⟩ := x
   simp only [noteStep]
   split
   ·
    rename_i hc
    intro s hs
    rcases List.mem_append.1 hs with h1 | h1
    ·
     exact h s h1
    ·
     rw [List.mem_singleton.1 h1]; exact hc.2.1
   ·
    exact h
 exact key xs [] (by simp)
theorem nsOk_numsOf (bs : List Blk) (hs : smB bs) (hb : szB bs ≤ 1000) : NsOk (numsOf bs) := by
 have h1 := (numbB_le (free := true) bs 0 cs0 cs0_le).2.2
 have hnl : (notesOf bs).length ≤ szB bs := by
  have h1 := notesIn_len (noteNames (listB bs)) (inls (listB bs))
  have h2 := inls_len (listB bs)
  have h3 := szL_listB bs
  unfold notesOf
  omega
 refine ⟨by simp only [numsOf, List.length_append, noteNums, List.length_map, List.length_range]; omega, ?_⟩
 intro n hn
 rcases List.mem_append.1 hn with h | h
 ·
  exact numbB_ns bs 0 cs0 hs (by omega) cs0_le (fun y hy => by simp [cs0] at hy) n h
 ·
  obtain ⟨i, hi, rfl⟩ := List.mem_map.1 h
  have hi' : i < (notesOf bs).length := by simpa using hi
  refine ⟨?_, by show (notS).length ≤ _; decide, ?_⟩
  ·
   show ((notesOf bs).getD i []).length ≤ _
   rw [List.getD_eq_getElem?_getD, List.getElem?_eq_getElem hi', Option.getD_some]
   have hm := notesIn_mem _ _ _ (List.getElem_mem hi')
   unfold noteNames at hm
   obtain ⟨b, hb1, hb2⟩ := List.mem_filterMap.1 hm
   obtain ⟨q1, _⟩ := smB_mem _ bs (Nat.le_refl _) hs b hb1
   obtain ⟨k, lv, inf, t, d, ti, a, line, kids⟩ := b
   simp only [noteName] at hb2
   split at hb2
   ·
    obtain rfl := Option.some.inj hb2
    unfold smB1 at q1
    omega
   ·
    cases hb2
  ·
   have := dec_len10 5 (i + 1) (by omega)
   show (dec (i + 1)).length ≤ _
   omega
mutual
def evR1 (f : Bs → Bs → Bs) : Inl → List Inl
 | .mk k t d ti a args cites kids => if k = 14 then [.mk k t d ti a args cites kids, textI (f t ti)] else .mk k t d ti a args cites kids :: evR f kids
def evR (f : Bs → Bs → Bs) : List Inl → List Inl
 | [] => []
 | x :: xs => evR1 f x ++ evR f xs
end
theorem evR_append (f : Bs → Bs → Bs) : ∀ (xs ys : List Inl), evR f (xs ++ ys) = evR f xs ++ evR f ys
 | [], ys => by simp [evR]
 | x :: xs, ys => by
  rw [List.cons_append]
  simp only [evR, evR_append f xs ys, List.append_assoc]
def refTl : Inl → Prop
 | .mk k t _ _ _ _ _ _ => k = 14 → t.length ≤ 100000
def resP (f : Bs → Bs → Bs) : RepI where
 rep := repR f
 g := resI f
 ev := evR f
 mm := mRI
 Gd xs := (∀ y ∈ deep xs, NodeCp y ∧ refTl y) ∧ szI xs ≤ 100000
 Gx x := refTl x
 g0 := by simp [resI]
 ev0 := by simp [evR]
 gs xs i x h := by rw [resI_take f h, resI1_rep]
 evs xs i x h := by
  obtain ⟨hlt, rfl⟩ := List.getElem?_eq_some_iff.1 h
  rw [List.take_succ_eq_append_getElem hlt, evR_append]
  congr 1
  generalize xs[i] = x
  obtain ⟨k, t, d, ti, a, args, cites, kids⟩ := x
  simp only [evR, evR1, repR, List.append_nil]
  by_cases e : k = 14
  ·
   rw [if_pos e, if_pos e]; simp [linkI, kidsI, evR, evR1, textI]
  ·
   rw [if_neg e, if_neg e]; rfl
 gl := resI_len f
 down xs i x hg h := by
  have hx : x ∈ deep xs := by
   have h1 := deep_take h
   have : x ∈ deep (xs.take (i + 1)) := by rw [h1]; cases x; simp [deep1]
   have h2 : deep xs = deep (xs.take (i + 1)) ++ deep (xs.drop (i + 1)) := by rw [← deep_append, List.take_append_drop]
   rw [h2]; exact List.mem_append_left _ this
  have hk : ∀ y ∈ deep (kidsI x), y ∈ deep xs := by
   intro y hy
   have h1 := deep_take h
   have : y ∈ deep (xs.take (i + 1)) := by rw [h1]; cases x; simp only [kidsI] at hy; simp [deep1, hy]
   have h2 : deep xs = deep (xs.take (i + 1)) ++ deep (xs.drop (i + 1)) := by rw [← deep_append, List.take_append_drop]
   rw [h2]; exact List.mem_append_left _ this
  obtain ⟨g1, g2⟩ := hg.1 x hx
  refine ⟨Nat.lt_of_lt_of_le (mRI_rep f x) (mRI_get h), ?_, ?_, g2⟩
  ·
   obtain ⟨k, t, d, ti, a, args, cites, kids⟩ := x
   have hsz := szI_kids h
   simp only [repR]
   by_cases e : k = 14
   ·
    rw [if_pos e]
    refine ⟨?_, by simp [linkI, kidsI, textI, szI, sz1]⟩
    intro y hy
    simp only [linkI, kidsI, textI, deep, deep1, List.append_nil, List.mem_singleton] at hy
    subst hy
    exact ⟨by simp [NodeCp, attrZ], fun h => by cases h⟩
   ·
    rw [if_neg e]
    have := hg.2
    exact ⟨fun y hy => hg.1 y (hk y hy), by simp only [kidsI]; omega⟩
  ·
   obtain ⟨k, t, d, ti, a, args, cites, kids⟩ := x
   simp only [repR]
   by_cases e : k = 14
   ·
    rw [if_pos e]; simp [NodeCp, linkI, attrZ]
   ·
    rw [if_neg e]; exact g1
 len xs hg := Nat.le_trans (len_szI xs) hg.2
set_option linter.unusedSimpArgs false
set_option linter.unusedVariables false
set_option maxRecDepth 4000
def resY (bs : List Blk) : YI := fun _ _ o => ∃ kt, o = .mp kt ∧ TxM kt (heldT bs)
set_option maxHeartbeats 1000000 in
theorem resRep_fn (bx m4 : Nat) (vS : Value) (lang : Bs) (ns : List DNum) (ps : List (Bs × Bs)) (bs : List Blk) (hsm : smB bs) (hbig : szB bs ≤ 1000) (hns : NsOk ns) (hps : ∀ p ∈ ps, p.2.length ≤ 100000) (u : View) (T : TypeId) (fr : Nat × Nat) (hbx : u bx = some (.cells [vS].toArray T fr)) (hV : ShV u vS lang ns ps bs m4)
  (pre : List Inl) (o : OO) (u' : View) (x : Inl) (cs : List Value) (hle : VLe u u') (hY : resY bs u' pre o) (hgx : refTl x) (hx : InlC u' x cs) :
  FnO Tryz.prog 23 [.agg cs.toArray, .pointer (some ⟨bx, 0, none⟩)] u' [(some m4, o)] fun r u'' l' => (∃ cs', r = .agg cs'.toArray ∧ InlC u'' (repR (refT ns bs lang ps) x) cs') ∧ ∃ o', l' = [(some m4, o')] ∧ resY bs u'' (pre ++ [x]) o' := by
 obtain ⟨kt, rfl, hT⟩ := hY
 have hV' := hV.mono hle
 have hbx := hle _ _ hbx
 obtain ⟨k, t, d, ti, a, args, cites, kids⟩ := x
 have oneAll := hx.one
 have hx0 := hx
 have hx9 := hx.cells
 obtain ⟨vc, vp, va, vt, vk, rfl, q1, q2, q3, q4, q5, hok⟩ := hx9
 obtain ⟨bS, _, _, _, _, _, _, _, _, rfl, _⟩ := hV
 have hrp : repR (refT ns bs lang ps) (.mk k t d ti a args cites kids) = if k = 14 then linkI t (refT ns bs lang ps t ti) else .mk k t d ti a args cites kids := rfl
 refine FnO.intro [.cell 3 42] Tryz.func23 rfl rfl rfl ?_
 intro w0 D hw0
 refine Zd (Za (Zv rfl rfl ?_))
 refine Zbx trivial rfl (cs := [_, _, _, _, _, _, _, _, _, _]) rfl rfl rfl rfl ?_
 refine Zv rfl rfl ?_
 refine Zas trivial Tryz.z42 rfl rfl rfl ?_
 refine Zf (ρ' := [(1, _), (2, _), (3, _)]) ⟨rfl, rfl, rfl, trivial⟩ ?_
 refine Zc (Zd (Zd (Za (Zg (Zh rfl Tryz.f42' rfl (by decide) rfl) rfl (Zg (Zi rfl Tryz.k3 rfl rfl rfl (vs := [_]) rfl rfl rfl) rfl (Zg (Zaw rfl rfl rfl) rfl (Zf (ρ' := [(1, _), (2, _), (3, _), (6, _)]) ⟨rfl, rfl, rfl, rfl, trivial⟩ ?_)))))))
 refine Zc ?_
 refine Zo rfl (fun hb1 => ?_) (fun hb1 => ?_)
 ·
  have h1 : k = 14 := of_decide_eq_true hb1; rw [if_pos h1] at hrp
  refine Zd (Za (Zg (Zbd rfl Tryz.k61 rfl (by assumption) (vs := [_]) (by first | rfl | exact hP | exact cut_at hP rfl (Nat.le_of_ble_eq_true rfl) rfl) rfl rfl) rfl ?_))
  refine Zg (Zi rfl Tryz.k42 rfl rfl rfl (vs := [_, _, _, _, _, _, _, _, _, _]) rfl rfl rfl) rfl (Zv rfl rfl ?_)
  refine Zaj (caps := []) (ρ' := [(3, _)]) [1000] [] trivial rfl rfl rfl Tryz.c24 rfl rfl ⟨rfl, trivial⟩ rfl rfl rfl (FnO.mono (show_fn _ lang ns ps bs m4 kt (.mk k t d ti a args cites kids) _ hsm hbig hns hps u' hV' hT (hgx h1) hx0) ?_)
  rintro v uX l1 hleX ⟨⟨cs2, rfl, hx2⟩, kt2, rfl, hT2⟩ -
  refine ⟨⟨fun _ h => h, trivial⟩, ?_⟩
  have oneAll := hx2.one; obtain ⟨wc, wp, wa, wt, wk, rfl, _⟩ := hx2.cells
  refine Zv rfl rfl ?_
  refine Zm trivial rfl Tryz.k42 rfl rfl rfl (vs := [_, _, _, _, _, _, _, _, _, _]) rfl rfl (by first | rfl | assumption | simp [Value.oneCell', str]) (Nat.le_of_ble_eq_true rfl) rfl ?_
  refine Zf (ρ' := [(3, _)]) ⟨rfl, trivial⟩ ?_
  refine Zc (Zw (Zj ?_))
  refine finO1 [1000] (.cell rfl rfl Tryz.k42 (cs := _) (vs := [_, _, _, _, _, _, _, _, _, _]) rfl rfl rfl) rfl rfl ?_
  exact ⟨⟨_, rfl, by rw [hrp]; exact hx2⟩, _, rfl, kt2, rfl, hT2⟩
 ·
  have h1 : ¬ k = 14 := of_decide_eq_false hb1; rw [if_neg h1] at hrp
  refine Zr (Zc (Zd (Za (Zg (Zi rfl Tryz.k42 rfl rfl rfl (vs := [_, _, _, _, _, _, _, _, _, _]) rfl rfl rfl) rfl (Zv rfl rfl ?_)))))
  refine Zm trivial rfl Tryz.k42 rfl rfl rfl (vs := [_, _, _, _, _, _, _, _, _, _]) rfl rfl (by first | rfl | assumption | simp [Value.oneCell', str]) (Nat.le_of_ble_eq_true rfl) rfl ?_
  refine Zf (ρ' := [(3, _)]) ⟨rfl, trivial⟩ ?_
  refine Zc (Zw ?_)
  refine finO1 [1000] (.cell rfl rfl Tryz.k42 (cs := _) (vs := [_, _, _, _, _, _, _, _, _, _]) rfl rfl rfl) rfl rfl ?_
  exact ⟨⟨_, rfl, by rw [hrp]; exact hx0⟩, _, rfl, kt, rfl, hT⟩
theorem resKeep_fn : CbK (fun _ => true) 25 [] := by
 refine ⟨Tryz.c25, fun u x cs hx => ?_⟩
 obtain ⟨k, lv, inf, t, d, ti, a, line, kids⟩ := x
 have oneAll := hx.one
 obtain ⟨vc, vp, vl, vk, rfl, _⟩ := hx.cells
 refine FnP.intro [.tmp 2] Tryz.func25 rfl rfl rfl ?_
 intro w0 D hw0
 refine Zd (Za (Zv rfl rfl ?_))
 refine Zbx trivial rfl (cs := [_, _, _, _, _, _, _, _, _, _, _]) rfl rfl rfl rfl ?_
 refine ya rfl rfl (Zf (ρ' := []) trivial ?_)
 refine Zc (Zd (Za (ya rfl rfl (Zf (ρ' := [(2, _)]) ⟨rfl, trivial⟩ ?_))))
 refine Zc (Zw (Zbe (.tmp rfl) ?_))
 rfl
theorem smNode {y : Inl} (h : smI1 y) : NodeCp y ∧ refTl y := by
 obtain ⟨k, t, d, ti, a, args, cites, kids⟩ := y
 unfold smI1 NodeSm at h
 exact ⟨⟨by omega, by omega, by omega, by omega⟩, fun _ => by omega⟩
def LangOk (lang : Bs) : Prop := lang = enS ∨ lang = deS ∨ lang = frS ∨ lang = esS
instance (lang : Bs) : Decidable (LangOk lang) := by unfold LangOk; infer_instance
def resDoc (lang : Bs) (ps : List (Bs × Bs)) (bs : List Blk) : List Blk := rebB (fun _ => true) (resI (refT (numsOf bs) bs lang ps)) bs
def resErr (lang : Bs) (bs : List Blk) : Int := if LangOk lang then (checkOf bs).2 else 2
theorem resGd (f : Bs → Bs → Bs) (bs : List Blk) (hsm : smB bs) (hbig : szB bs ≤ 1000) : GdB (resP f) (fun _ => true) bs := by
 refine gdB_of (resP f) _ bs hsm (by omega) (fun xs h1 h2 => ?_)
 show (∀ y ∈ deep xs, NodeCp y ∧ refTl y) ∧ szI xs ≤ 100000
 exact ⟨fun y hy => smNode (smI_mem _ xs (Nat.le_refl _) h1 y hy).1, h2⟩
theorem resCb (bx m4 : Nat) (vS : Value) (lang : Bs) (ps : List (Bs × Bs)) (bs : List Blk) (hsm : smB bs) (hbig : szB bs ≤ 1000) (hps : ∀ p ∈ ps, p.2.length ≤ 100000) (u : View) (T : TypeId) (fr : Nat × Nat) (hbx : u bx = some (.cells [vS].toArray T fr)) (hV : ShV u vS lang (numsOf bs) ps bs m4) :
  CbR (resP (refT (numsOf bs) bs lang ps)) (.func (.func 23) #[] [.pointer (some ⟨bx, 0, none⟩)].toArray) m4 u (resY bs) := by
 have hns := nsOk_numsOf bs hsm hbig
 refine ⟨23, [.pointer (some ⟨bx, 0, none⟩)], rfl, Tryz.c23, fun pre o u' x cs hle hY hg hx => ?_⟩
 have hg' : refTl x := hg
 have := resRep_fn bx m4 vS lang (numsOf bs) ps bs hsm hbig hns hps u T fr hbx hV pre o u' x cs hle hY hg' hx
 exact this
theorem resRebuild_fn (bx m4 : Nat) (vS vb : Value) (lang : Bs) (ps : List (Bs × Bs)) (bs : List Blk) (hsm : smB bs) (hbig : szB bs ≤ 1000) (hps : ∀ p ∈ ps, p.2.length ≤ 100000) (u : View) (T : TypeId) (fr : Nat × Nat) (hbx : u bx = some (.cells [vS].toArray T fr)) (hV : ShV u vS lang (numsOf bs) ps bs m4) (ha : BlkS u vb bs) :
  FnO Tryz.prog 27 [vb, .func (.func 25) #[] [].toArray, .func (.func 23) #[] [.pointer (some ⟨bx, 0, none⟩)].toArray] u [(some m4, .mp [])] fun r u' l' => BlkS u' r (resDoc lang ps bs) ∧ ∃ kt, l' = [(some m4, .mp kt)] := by
 have h := rebuild_fn (resP (refT (numsOf bs) bs lang ps)) (fun _ => true) 25 [] resKeep_fn 23 [.pointer (some ⟨bx, 0, none⟩)] m4 (resY bs) (fun _ _ _ _ _ h => h) Tryz.c23 (szB bs) vb bs [] (.mp []) u (Nat.le_refl _) (by omega) (resGd _ bs hsm hbig) ha (resCb bx m4 vS lang ps bs hsm hbig hps u T fr hbx hV) ⟨[], rfl, rfl, fun s => .inl rfl⟩
 refine h.mono ?_
 rintro r u' l' _ ⟨h1, o', rfl, kt, rfl, _⟩
 exact ⟨h1, kt, rfl⟩
def ResR (u : View) (mts : List (Bs × Bs)) (lang : Bs) (ps : List (Bs × Bs)) (bs : List Blk) (r : Value) : Prop :=
 (resErr lang bs = 0 ∧ ∃ vm vb, r = .tuple #[.agg #[vm, vb], .int .i64 0] ∧ PrS u vm mts ∧ BlkS u vb (resDoc lang ps bs)) ∨
 (resErr lang bs ≠ 0 ∧ r = .tuple #[.agg #[.slice none 0 0, .slice none 0 0], .int .i64 (resErr lang bs)])
set_option maxHeartbeats 400000 in
theorem labResolve_fn (vm vb vp : Value) (mts : List (Bs × Bs)) (lang : Bs) (bs : List Blk) (ps : List (Bs × Bs)) (u : View) (hT : TabU u) (hbig : szB bs ≤ 1000) (hsm : smB bs) (hml : mts.length ≤ 1000000) (hpl : ps.length ≤ 1000) (hps : ∀ p ∈ ps, p.2.length ≤ 100000) (hm : PrS u vm mts) (ha : BlkS u vb bs) (hp : PrS u vp ps) :
  FnP Tryz.prog 9 [.agg #[vm, vb], str lang, vp] u fun r u' => ResR u' mts lang ps bs r := by
 have hns := nsOk_numsOf bs hsm hbig
 refine FnP.intro [.cell 6 25, .tmp 7] Tryz.func9 rfl rfl rfl ?_
 intro w0 D hw0
 refine Zd (Za (Zv rfl rfl ?_))
 refine Zbx trivial rfl (cs := [_, _]) rfl rfl rfl rfl ?_
 refine Zv rfl rfl ?_
 refine Zas trivial Tryz.z25 rfl rfl rfl ?_
 refine ya rfl rfl (Zf (ρ' := [(1, _), (2, _), (3, _), (6, _)]) ⟨rfl, rfl, rfl, rfl, trivial⟩ ?_)
 refine Zc (Zd (Zd (Za (ym rfl rfl (Zf (ρ' := [(1, _), (2, _), (3, _), (6, _), (13, _)]) ⟨rfl, rfl, rfl, rfl, rfl, trivial⟩ ?_)))))
 refine Zc (Zad ?_)
 refine Zbu (fun ρ σ uci2 => VLe u uci2 ∧ σ = [(3, (none, .box [vm, vb])), (6, (none, .box [.slice none 0 0, .slice none 0 0]))] ∧ ρ = [(1, .v (str lang)), (2, .v vp), (3, .p 3 0), (6, .p 6 0), (15, .v (.bool (decide (LangOk lang))))] ∧ (u = uci2)) ?_ ?_
 ·
  refine Zd (Za (Zg (Zba rfl rfl rfl) rfl (ya rfl rfl (Zf (ρ' := [(1, _), (2, _), (3, _), (6, _), (13, _), (15, _)]) ⟨rfl, rfl, rfl, rfl, rfl, rfl, trivial⟩ ?_))))
  refine Zc ?_
  refine Zo rfl (fun hb3 => ?_) (fun hb3 => ?_)
  ·
   refine Zr (Zab ?_)
   refine ⟨[(1, _), (2, _), (3, _), (6, _), (15, _)], [(3, _), (6, _)], ⟨rfl, rfl, rfl, rfl, rfl, trivial⟩, ⟨rfl, rfl, trivial⟩, (VLe.refl _), rfl, (by simp only [List.cons.injEq, Prod.mk.injEq, SV.v.injEq, Value.bool.injEq, eq_self, true_and, and_true]; exact decide_eq_decide.2 (by simp only [decide_eq_true_eq, decide_eq_false_iff_not] at *; unfold LangOk enS deS frS esS; simp_all)), ?_⟩
   rfl
  ·
   refine Zd (Za (Zg (Zba rfl rfl rfl) rfl (ya rfl rfl (Zf (ρ' := [(1, _), (2, _), (3, _), (6, _), (13, _), (15, _)]) ⟨rfl, rfl, rfl, rfl, rfl, rfl, trivial⟩ ?_))))
   refine Zc ?_
   refine Zo rfl (fun hb4 => ?_) (fun hb4 => ?_)
   ·
    refine Zr (Zab ?_)
    refine ⟨[(1, _), (2, _), (3, _), (6, _), (15, _)], [(3, _), (6, _)], ⟨rfl, rfl, rfl, rfl, rfl, trivial⟩, ⟨rfl, rfl, trivial⟩, (VLe.refl _), rfl, (by simp only [List.cons.injEq, Prod.mk.injEq, SV.v.injEq, Value.bool.injEq, eq_self, true_and, and_true]; exact decide_eq_decide.2 (by simp only [decide_eq_true_eq, decide_eq_false_iff_not] at *; unfold LangOk enS deS frS esS; simp_all)), ?_⟩
    rfl
   ·
    refine Zd (Za (Zg (Zba rfl rfl rfl) rfl (ya rfl rfl (Zf (ρ' := [(1, _), (2, _), (3, _), (6, _), (13, _), (15, _)]) ⟨rfl, rfl, rfl, rfl, rfl, rfl, trivial⟩ ?_))))
    refine Zc ?_
    refine Zo rfl (fun hb5 => ?_) (fun hb5 => ?_)
    ·
     refine Zr (Zab ?_)
     refine ⟨[(1, _), (2, _), (3, _), (6, _), (15, _)], [(3, _), (6, _)], ⟨rfl, rfl, rfl, rfl, rfl, trivial⟩, ⟨rfl, rfl, trivial⟩, (VLe.refl _), rfl, (by simp only [List.cons.injEq, Prod.mk.injEq, SV.v.injEq, Value.bool.injEq, eq_self, true_and, and_true]; exact decide_eq_decide.2 (by simp only [decide_eq_true_eq, decide_eq_false_iff_not] at *; unfold LangOk enS deS frS esS; simp_all)), ?_⟩
     rfl
    ·
     refine Za (Zg (Zba rfl rfl rfl) rfl (ya rfl rfl (Zf (ρ' := [(1, _), (2, _), (3, _), (6, _), (15, _)]) ⟨rfl, rfl, rfl, rfl, rfl, trivial⟩ ?_)))
     refine Zab ?_
     refine ⟨[(1, _), (2, _), (3, _), (6, _), (15, _)], [(3, _), (6, _)], ⟨rfl, rfl, rfl, rfl, rfl, trivial⟩, ⟨rfl, rfl, trivial⟩, (VLe.refl _), rfl, (by simp only [List.cons.injEq, Prod.mk.injEq, SV.v.injEq, Value.bool.injEq, eq_self, true_and, and_true]; exact decide_eq_decide.2 (by simp only [decide_eq_true_eq, decide_eq_false_iff_not] at *; unfold LangOk enS deS frS esS; simp_all)), ?_⟩
     rfl
 ·
  rintro ρ σ uci2 ⟨hlci2, rfl, rfl, rfl⟩
  refine Zo rfl (fun hb6 => ?_) (fun hb6 => ?_)
  ·
   have hE : resErr lang bs = (checkOf bs).2 := if_pos (of_decide_eq_true hb6 : LangOk lang)
   refine Zr (Zah (Zc (Zd (Zd (Za (Zg (Zi rfl Tryz.k25 rfl rfl rfl (vs := [_, _]) rfl rfl rfl) rfl (Zv rfl rfl ?_)))))))
   refine Zaa (caps := []) trivial rfl rfl Tryz.c14 rfl (FnP.mono (labCheck_fn vm vb bs u (by omega) ha) ?_)
   rintro v u1 hle1 rfl
   refine ym rfl rfl (Zg (Zbj rfl rfl rfl) rfl (Zg (Zbj rfl rfl rfl) rfl (ya rfl rfl (ya rfl rfl (Zf (ρ' := [(1, _), (2, _), (3, _), (6, _), (9, _)]) ⟨rfl, rfl, rfl, rfl, rfl, trivial⟩ ?_)))))
   refine Zc (Zd (Za (ym rfl rfl (Zg (Zck rfl rfl rfl) rfl (Zf (ρ' := [(1, _), (2, _), (3, _), (6, _), (9, _), (26, _)]) ⟨rfl, rfl, rfl, rfl, rfl, rfl, trivial⟩ ?_)))))
   refine Zc ?_
   refine Zo rfl (fun hb8 => ?_) (fun hb8 => ?_)
   ·
    have h8 : (checkOf bs).2 ≠ 0 := of_decide_eq_true hb8
    refine Zd (Za (Zg (Zbf rfl Tryz.f25' Tryz.z25 (ps := []) rfl (vs := [_, _]) rfl) rfl (ym rfl rfl (Zv rfl rfl ?_))))
    refine Zm trivial rfl Tryz.k25 rfl rfl rfl (vs := [_, _]) rfl rfl (by first | rfl | assumption | simp [Value.oneCell', str]) (Nat.le_of_ble_eq_true rfl) rfl ?_
    refine ya rfl rfl (Zf (ρ' := [(6, _), (7, _)]) ⟨rfl, rfl, trivial⟩ ?_)
    refine Zc (Zw (Zj ?_))
    refine fin2 (.cell rfl rfl Tryz.k25 (cs := _) (vs := [_, _]) rfl rfl rfl) (.tmp rfl) ?_
    exact .inr ⟨by rw [hE]; exact h8, by rw [hE]⟩
   ·
    have h8 : (checkOf bs).2 = 0 := Decidable.of_not_not (of_decide_eq_false hb8)
    refine Zr (Zc (Zd (Za (Zg (Zi rfl Tryz.k25 rfl rfl rfl (vs := [_, _]) rfl rfl rfl) rfl (ym rfl rfl (ym rfl rfl (Zv rfl rfl ?_)))))))
    refine Zaj (caps := []) (ρ' := [(3, _), (6, _)]) [] [900] trivial rfl rfl rfl Tryz.c22 rfl rfl ⟨rfl, rfl, trivial⟩ rfl rfl rfl (FnO.mono (newShower_fn vm vb vp lang bs ps u hT hbig hsm hpl (nsOk_numsOf bs hsm hbig).1 ha hp) ?_)
    rintro v uS l1 hleS ⟨m4, rfl, hV⟩ -
    refine ⟨trivial, ?_⟩
    have hV' := hV
    obtain ⟨bS, _, _, _, _, _, _, _, _, rfl, _⟩ := hV'
    refine Zv rfl rfl ?_
    refine Zas trivial Tryz.z61 rfl rfl rfl ?_
    refine Zv rfl rfl ?_
    refine Zm trivial rfl Tryz.k61 rfl rfl rfl (vs := [_]) rfl rfl (by first | rfl | assumption | simp [Value.oneCell', str]) (Nat.le_of_ble_eq_true rfl) rfl ?_
    refine Zf (ρ' := [(3, _), (6, _), (10, _)]) ⟨rfl, rfl, rfl, trivial⟩ ?_
    refine Zc (Zd (Za ?_))
    refine Zbz 10 rfl ⟨10, _, .inl rfl⟩ ?_
    intro b10
    refine Zg (Zbt rfl rfl rfl) rfl ?_
    refine Zcs 10 rfl ?_
    intro b10 T10 u10 hle10z hu10 hpn10
    obtain rfl := hpn10 _ rfl
    refine ya rfl rfl (Zf (ρ' := [(3, _), (6, _), (11, _)]) ⟨rfl, rfl, rfl, trivial⟩ ?_)
    refine Zc (Zd (Za (ya rfl rfl (Zf (ρ' := [(3, _), (6, _), (11, _), (12, _)]) ⟨rfl, rfl, rfl, rfl, trivial⟩ ?_))))
    refine Zc (Zd ?_)
    have hm' := (hm.mono hleS).mono hle10z
    have ha' := (ha.mono hleS).mono hle10z
    have hV' := hV.mono hle10z
    refine Zbk Tryz.mixed rfl [(3, _)] ⟨rfl, trivial⟩ ?_
    refine Zal 0 rfl (by kernel_rfl) (Zb (Zan)) (Zh rfl Tryz.f25' rfl (by decide) rfl) rfl ?_
    refine Zal 1 rfl (by kernel_rfl) (Zb (Zan)) (Zi rfl Tryz.k22 rfl rfl rfl (vs := [_]) rfl rfl rfl) rfl ?_
    refine Zal 3 rfl (by kernel_rfl) (Zb (Zan)) (Zh rfl Tryz.f25' rfl (by decide) rfl) rfl ?_
    refine Zal 4 rfl (by kernel_rfl) (Zb (Zan)) (Zi rfl Tryz.k23 rfl rfl rfl (vs := [_]) rfl rfl rfl) rfl ?_
    refine Zal 5 rfl (by kernel_rfl) (Zb (Zan)) (Zap rfl rfl) rfl (Zal 6 rfl (by kernel_rfl) (Zb (Zan)) (Zap rfl rfl) rfl ?_)
    refine Zar (i := 2) rfl rfl (by kernel_rfl) ?_
    refine Zbm (caps := []) ⟨rfl, trivial⟩ rfl rfl Tryz.c26 rfl (FnP.mono (labCopyMeta_fn vm mts hml _ hm') ?_)
    rintro v uM hle0 ⟨mad, mcap, rfl, hm1⟩ hleM
    have hcall := resRebuild_fn b10 m4 _ vb lang ps bs hsm hbig hps uM _ _ (hleM _ _ hu10) (hV'.mono hleM) (ha'.mono hleM)
    refine Zar (i := 7) rfl rfl (by kernel_rfl) ?_
    refine Zaj (caps := []) (ρ' := [(6, _), (36, _)]) [900] [] ⟨rfl, trivial⟩ rfl rfl rfl Tryz.c27 rfl rfl ⟨rfl, rfl, trivial⟩ rfl rfl rfl (FnO.mono (hcall) ?_)
    rintro v uB l1 hleB ⟨⟨bcs, ⟨bad, bcap, rfl, hb1⟩, hb2⟩, ktB, rfl⟩ -
    refine ⟨⟨fun _ h => h, trivial⟩, ?_⟩
    refine Zal 8 rfl (by kernel_rfl) (Zb (Zan)) (Zbf rfl Tryz.f25' Tryz.z25 (ps := [(_, _), (_, _)]) rfl (vs := [_, _]) rfl) rfl ?_
    refine Zar (i := 9) rfl rfl (by kernel_rfl) ?_
    refine Zm ⟨rfl, trivial⟩ rfl Tryz.k25 rfl rfl rfl (vs := [_, _]) rfl rfl (by first | rfl | assumption | simp [Value.oneCell', str]) (Nat.le_of_ble_eq_true rfl) rfl ?_
    refine Zal 10 rfl (by kernel_rfl) (Zb (Zan)) (Zcf rfl rfl) rfl ?_
    refine Zbl (by kernel_rfl) (ρ' := [(6, _), (7, _)]) ⟨rfl, rfl, trivial⟩ ?_
    refine Zc (Zw ?_)
    refine fin2 (.cell rfl rfl Tryz.k25 (cs := _) (vs := [_, _]) rfl rfl rfl) (.tmp rfl) ?_
    exact .inl ⟨by rw [hE, h8], _, _, rfl, PrS.mono ⟨_, _, rfl, hm1⟩ hleB, ⟨bcs, ⟨bad, bcap, rfl, hb1⟩, hb2⟩⟩
  ·
   have hE : resErr lang bs = 2 := if_neg (of_decide_eq_false hb6 : ¬ LangOk lang)
   refine Zd (Za (Zg (Zbf rfl Tryz.f25' Tryz.z25 (ps := []) rfl (vs := [_, _]) rfl) rfl (Zv rfl rfl ?_)))
   refine Zm trivial rfl Tryz.k25 rfl rfl rfl (vs := [_, _]) rfl rfl (by first | rfl | assumption | simp [Value.oneCell', str]) (Nat.le_of_ble_eq_true rfl) rfl ?_
   refine ya rfl rfl (Zf (ρ' := [(6, _), (7, _)]) ⟨rfl, rfl, trivial⟩ ?_)
   refine Zc (Zw (Zu (Zj ?_)))
   refine fin2 (.cell rfl rfl Tryz.k25 (cs := _) (vs := [_, _]) rfl rfl rfl) (.tmp rfl) ?_
   exact .inr ⟨by rw [hE]; decide, by rw [hE]⟩
abbrev nilV : Value := .slice none 0 0
theorem dec_lit (n : Nat) (h : n < 10) : dec n = [UInt8.ofNat (48 + n)] := dec_small h
theorem BlksC.cons' {u : View} {x : Blk} {xs : List Blk} {c r : List Value} (h : BlkC u x c) (k : BlksC u xs r) : BlksC u (x :: xs) (c ++ r) := by
 unfold BlksC; exact ⟨c, r, rfl, h, k⟩
theorem InlsC.cons' {u : View} {x : Inl} {xs : List Inl} {c r : List Value} (h : InlC u x c) (k : InlsC u xs r) : InlsC u (x :: xs) (c ++ r) := by
 unfold InlsC; exact ⟨c, r, rfl, h, k⟩
def startS : Bs := [83, 116, 97, 114, 116]
def refW : Inl := .mk 14 [115] [] [] attrZ [] [] []
def headW : Blk := .mk 2 1 [] [] [] [] ⟨[115], [], []⟩ [textI startS] []
def paraW : Blk := .mk 1 0 [] [] [] [] attrZ [refW] []
def docW : List Blk := [headW, paraW]
def sec1S : Bs := [83, 101, 99, 116, 105, 111, 110, 32, 49]
def resW : List Blk := [headW, .mk 1 0 [] [] [] [] attrZ [linkI [115] sec1S] []]
theorem W_names : namesOf docW = [[115]] := by
 simp [docW, headW, paraW, refW, textI, attrZ, namesOf, namesE, evB, evL, evI, listB, listb, deep, deep1, lineOf, evId, idB, idI, nz]
theorem W_miss : missOf docW = [] := by
 unfold missOf
 rw [W_names]
 simp [docW, headW, paraW, refW, textI, attrZ, missE, missEv, evB, evL, evI, listB, listb, deep, deep1, lineOf]
theorem W_check : checkOf docW = ([], 0) := by
 unfold checkOf
 rw [W_names, W_miss]
 simp [twice]
theorem W_err : resErr enS docW = 0 := by
 unfold resErr
 rw [if_pos (show LangOk enS from .inl rfl), W_check]
theorem W_nums : numsOf docW = [⟨[115], secS, [49], [textI startS]⟩] := by
 simp [docW, headW, paraW, refW, textI, attrZ, startS, numsOf, numbB, numb1, headStep, kindStep, kindN, cs0, clampL, notesOf, noteNames, noteName, listB, listb, inls, deep, deep1, lineOf, notesIn, noteNums, valF, ctrF, List.range_succ, dots, Lib.join, dec_lit, List.intercalate, noteStep]
theorem W_ref : refT (numsOf docW) docW enS [] [115] [] = sec1S := by
 rw [W_nums]
 simp [refT, refTx, numFor, numT, wordOf, rowW, pageS, secS, notS, equS, enS, deS, frS, esS, sec1S]
theorem W_res : resDoc enS [] docW = resW := by
 have h := W_ref
 unfold resDoc
 generalize refT (numsOf docW) docW enS [] = f at h
 simp [docW, headW, paraW, refW, resW, rebB, rebb, resI, resI1, textI, h]
theorem W_sz : szB docW = 4 ∧ smB docW := by
 refine ⟨?_, ?_⟩ <;> simp [docW, headW, paraW, refW, textI, startS, attrZ, szB, szb, szI, sz1, smB, smB1, smI, smI1, NodeSm, longN]
set_option maxHeartbeats 4000000 in
theorem lawawake_fn (u : View) (hT : TabU u) : FnP Tryz.prog 8 [] u fun r _ => r = .bool true := by
 refine FnP.intro [.tmp 0] Tryz.func8 rfl rfl rfl ?_
 intro w0 D hw0
 refine Zd (Za (ya rfl rfl (Zf (ρ' := []) trivial ?_)))
 refine Zc (Zd (Za (Zg (Zbf rfl Tryz.f42' Tryz.z42 (ps := [(_, _), (_, _)]) rfl (vs := [_, _, _, _, _, _, _, _, _, _]) rfl) rfl ?_)))
 refine Zv rfl rfl ?_
 refine Zak trivial Tryz.s35 Tryz.z42 (ps := [(_, _)]) rfl (xs := [_, _, _, _, _, _, _, _, _, _]) rfl rfl rfl rfl rfl rfl rfl ?_
 refine Zbo 9 rfl ?_
 intro ad9 cap9 u9 hle9z hsl9
 have hT := hT.mono hle9z
 have hL1 : InlS u9 (.slice ad9 1 cap9) [textI startS] := ⟨_, ⟨_, _, rfl, hsl9⟩, InlsC.one (textI_ok _ _ (by decide))⟩
 refine ya rfl rfl (Zf (ρ' := [(1, _)]) ⟨rfl, trivial⟩ ?_)
 refine Zc (Zd (Za (ym rfl rfl (Zg (Zbf rfl Tryz.f39' Tryz.z39 (ps := [(_, _)]) rfl (vs := [_, _, _]) rfl) rfl ?_))))
 refine Zg (Zbf rfl Tryz.f59' Tryz.z59 (ps := [(_, _), (_, _), (_, _), (_, _)]) rfl (vs := [_, _, _, _, _, _, _, _, _, _, _]) rfl) rfl ?_
 refine Zg (Zbf rfl Tryz.f42' Tryz.z42 (ps := [(_, _), (_, _)]) rfl (vs := [_, _, _, _, _, _, _, _, _, _]) rfl) rfl ?_
 refine Zv rfl rfl ?_
 refine Zak trivial Tryz.s35 Tryz.z42 (ps := [(_, _)]) rfl (xs := [_, _, _, _, _, _, _, _, _, _]) rfl rfl rfl rfl rfl rfl rfl ?_
 refine Zbo 14 rfl ?_
 intro ad14 cap14 u14 hle14z hsl14
 have hT := hT.mono hle14z
 have hL1 := hL1.mono hle14z
 have hL2 : InlS u14 (.slice ad14 1 cap14) [refW] := ⟨_, ⟨_, _, rfl, hsl14⟩, InlsC.one (InlC.mk' (a := attrZ) (nilStr _) (nilPr _) (nilStr _) (nilCi _) (nilInl _) ⟨intOk_of (by decide), by decide, by decide, by decide, attrOk0, ⟨by decide, by simp⟩, ⟨by decide, by simp⟩, by decide⟩)⟩
 refine Zg (Zbf rfl Tryz.f59' Tryz.z59 (ps := [(_, _), (_, _)]) rfl (vs := [_, _, _, _, _, _, _, _, _, _, _]) rfl) rfl ?_
 refine Zv rfl rfl ?_
 refine Zak trivial Tryz.s23 Tryz.z59 (ps := [(_, _), (_, _)]) rfl (xs := [_, _, _, _, _, _, _, _, _, _, _, _, _, _, _, _, _, _, _, _, _, _]) rfl rfl rfl rfl rfl rfl rfl ?_
 refine Zbo 16 rfl ?_
 intro ad16 cap16 u16 hle16z hsl16
 have hT := hT.mono hle16z
 have hW1 : BlkC u16 headW _ := BlkC.mk' (a := ⟨[115], [], []⟩) (nilStr _) (nilPr _) (hL1.mono hle16z) (nilBlk _) ⟨intOk_of (by decide), intOk_of (by decide), by decide, by decide, by decide, by decide, ⟨by decide, ⟨by decide, by simp⟩, ⟨by decide, by simp⟩⟩, by decide, by decide⟩
 have hW2 : BlkC u16 paraW _ := BlkC.mk' (a := attrZ) (nilStr _) (nilPr _) (hL2.mono hle16z) (nilBlk _) ⟨intOk_of (by decide), intOk_of (by decide), by decide, by decide, by decide, by decide, attrOk0, by decide, by decide⟩
 have hW : BlkS u16 (.slice ad16 2 cap16) docW := ⟨_, ⟨_, _, rfl, hsl16⟩, BlksC.cons' hW1 (BlksC.cons' hW2 BlksC.nil)⟩
 refine Zg (Zbf rfl Tryz.f25' Tryz.z25 (ps := [(_, _)]) rfl (vs := [_, _]) rfl) rfl ?_
 refine Zv rfl rfl ?_
 refine Zas trivial Tryz.z25 rfl rfl rfl ?_
 refine Zv rfl rfl ?_
 refine Zm trivial rfl Tryz.k25 rfl rfl rfl (vs := [_, _]) rfl rfl (by first | rfl | assumption | simp [Value.oneCell', str]) (Nat.le_of_ble_eq_true rfl) rfl ?_
 refine Zf (ρ' := [(2, _)]) ⟨rfl, trivial⟩ ?_
 refine Zc (Zd (Za (Zg (Zi rfl Tryz.k25 rfl rfl rfl (vs := [_, _]) rfl rfl rfl) rfl (Zv rfl rfl ?_))))
 refine Zbm (caps := []) trivial rfl rfl Tryz.c9 rfl (FnP.mono (labResolve_fn nilV _ nilV [] enS docW [] u16 hT (by rw [W_sz.1]; decide) W_sz.2 (by decide) (by decide) (fun p hp ↦ by cases hp) (nilPr _) hW (nilPr _)) ?_)
 rintro v uX hle0 hR hleX
 obtain ⟨va, vx, rfl, hva, hx⟩ : ∃ va vx, v = .tuple #[.agg #[va, vx], .int .i64 0] ∧ PrS uX va [] ∧ BlkS uX vx resW := by
  rcases hR with ⟨_, va, vx, h, h1, h2⟩ | ⟨h, _⟩
  ·
   rw [W_res] at h2; exact ⟨va, vx, h, h1, h2⟩
  ·
   exact absurd W_err h
 obtain ⟨vad, vcap, rfl, hva1⟩ := hva
 obtain ⟨xcs, ⟨xad, xcap, rfl, hx1⟩, hx2⟩ := hx
 have hW := hW.mono hleX
 have hsl16 := hsl16.mono hleX
 have hT := hT.mono hleX
 refine ym rfl rfl (Zg (Zbj rfl rfl rfl) rfl (Zg (Zbj rfl rfl rfl) rfl (Zv rfl rfl ?_)))
 refine Zas trivial Tryz.z25 rfl rfl rfl ?_
 refine Zv rfl rfl ?_
 refine Zm trivial rfl Tryz.k25 rfl rfl rfl (vs := [_, _]) rfl rfl (by first | rfl | assumption | simp [Value.oneCell', str]) (Nat.le_of_ble_eq_true rfl) rfl ?_
 refine ya rfl rfl (Zf (ρ' := [(2, _), (3, _), (4, _)]) ⟨rfl, rfl, rfl, trivial⟩ ?_)
 refine Zc (Zd (Za (Zg (Zh rfl Tryz.f25' rfl (by decide) rfl) rfl (Zg (Zi rfl Tryz.k23 rfl rfl rfl (vs := [_]) rfl rfl rfl) rfl (Zg (y_slice_v rfl Tryz.s23 rfl rfl (i := 1) rfl (by decide)) rfl (Zg (Zbf rfl Tryz.f25' Tryz.z25 (ps := [(_, _)]) rfl (vs := [_, _]) rfl) rfl ?_))))))
 refine Zv rfl rfl ?_
 refine Zaa (caps := []) trivial rfl rfl Tryz.c14 rfl (FnP.mono (labCheck_fn nilV _ [paraW] uX (by simp [paraW, refW, szB, szb, szI, sz1]) ⟨_, ⟨_, _, rfl, hsl16.from (by decide)⟩, BlksC.cons' (hW2.mono hleX) BlksC.nil⟩) ?_)
 rintro v u1 hle1 rfl
 obtain ⟨k, lv, inf, t, d, ti, a, line, kids, vc, vp, vl, vk, hg, hcutB, _, _, hsl, _, _⟩ := hx2.at (i := 1) (by decide)
 have hg' : some (Blk.mk 1 0 [] [] [] [] attrZ [linkI [115] sec1S] []) = some (Blk.mk k lv inf t d ti a line kids) := hg
 cases hg'
 obtain ⟨lcs, ⟨lad, lcap, rfl, hl1⟩, hl2⟩ := hsl
 obtain ⟨k, t, d, ti, a, args, cites, kids, vc2, vp2, va2, vt2, vk2, hg2, hcutL, _, _, _, _, hkids, _⟩ := hl2.at (i := 0) (by decide)
 have hg2' : some (Inl.mk 9 [] (35 :: [115]) [] attrZ [] [] [textI sec1S]) = some (Inl.mk k t d ti a args cites kids) := hg2
 cases hg2'
 have oneAll := (hl2.get 0 (linkI [115] sec1S) rfl).one
 rw [hcutL] at oneAll
 have hrl : resW.length = 2 := rfl
 have hll : [linkI [115] sec1S].length = 1 := rfl
 refine ym rfl rfl (Zg (Zbj rfl rfl rfl) rfl (Zg (Zbj rfl rfl rfl) rfl (ya rfl rfl (ya rfl rfl (Zf (ρ' := [(2, _), (3, _), (4, _), (5, _), (6, _)]) ⟨rfl, rfl, rfl, rfl, rfl, trivial⟩ ?_)))))
 refine Zc (Zd (Zd (Za (ym rfl rfl (Zg (Zck rfl rfl rfl) rfl (ym rfl rfl (Zk rfl rfl ?_)))))))
 refine ym rfl rfl (Zk rfl rfl (Zg (Zck rfl rfl rfl) rfl (Zg (Zn rfl rfl rfl) rfl (ym rfl rfl (Zk rfl rfl (ym rfl rfl (Zk rfl rfl ?_)))))))
 refine Zg (Zbv rfl rfl rfl) rfl (Zg (Zn rfl rfl rfl) rfl (ym rfl rfl (Zk rfl rfl (Zg (Zh rfl Tryz.f25' rfl (by decide) rfl) rfl (Zk rfl rfl (Zg (Zi rfl Tryz.k23 rfl rfl rfl (vs := [_]) rfl rfl rfl) rfl (Zk rfl rfl ?_)))))))
 refine Zg (Zaq rfl rfl Tryz.s23 rfl) rfl (Zk rfl rfl (Zg (Zck rfl rfl rfl) rfl (Zg (Zn rfl rfl rfl) rfl (ym rfl rfl (Zk rfl rfl (Zg (Zh rfl Tryz.f25' rfl (by decide) rfl) rfl (Zk rfl rfl ?_)))))))
 refine Zg (Zi rfl Tryz.k23 rfl rfl rfl (vs := [_]) rfl rfl rfl) rfl (Zk rfl rfl (Zg (Zai rfl Tryz.s23 rfl rfl hx1 (j := 1) rfl (by decide)) rfl (Zk rfl rfl (Zg (Zau rfl Tryz.f59' rfl (by decide) rfl) rfl (Zk rfl rfl (Zg (Zag rfl Tryz.k35 rfl (by assumption) (by omega) (by assumption) (vs := [_]) rfl rfl rfl rfl) rfl (Zk rfl rfl ?_)))))))
 refine Zg (Zaq rfl rfl Tryz.s35 rfl) rfl (Zk rfl rfl (Zg (Zck rfl rfl rfl) rfl (Zg (Zn rfl rfl rfl) rfl (Zf (ρ' := [(2, _), (3, _), (55, _)]) ⟨rfl, rfl, rfl, trivial⟩ ?_))))
 refine Zc (Zce rfl (rfl) (Zr (Zc (Zd (Za (Zg (Zh rfl Tryz.f25' rfl (by decide) rfl) rfl (Zg (Zi rfl Tryz.k23 rfl rfl rfl (vs := [_]) rfl rfl rfl) rfl ?_)))))))
 refine Zg (Zai rfl Tryz.s23 rfl rfl hx1 (j := 1) rfl (by decide)) rfl (Zg (Zau rfl Tryz.f59' rfl (by decide) rfl) rfl (Zg (Zag rfl Tryz.k35 rfl (by assumption) (by omega) (by assumption) (vs := [_]) rfl rfl rfl rfl) rfl (Zg (Zai rfl Tryz.s35 rfl rfl hl1 (j := 0) rfl (by decide)) rfl (Zg (Zag rfl Tryz.k42 rfl (by assumption) (by omega) (by assumption) (vs := [_, _, _, _, _, _, _, _, _, _]) rfl rfl rfl rfl) rfl (Zv rfl rfl ?_)))))
 refine Zas trivial Tryz.z42 rfl rfl rfl ?_
 refine Zv rfl rfl ?_
 refine Zm trivial rfl Tryz.k42 rfl rfl rfl (vs := [_, _, _, _, _, _, _, _, _, _]) rfl rfl (by first | rfl | assumption | simp [Value.oneCell', str]) (Nat.le_of_ble_eq_true rfl) rfl ?_
 refine Zf (ρ' := [(2, _), (7, _)]) ⟨rfl, rfl, trivial⟩ ?_
 refine Zc (Zd (Za (Zg (Zh rfl Tryz.f42' rfl (by decide) rfl) rfl (Zg (Zi rfl Tryz.k3 rfl rfl rfl (vs := [_]) rfl rfl rfl) rfl (Zg (Zaw rfl rfl rfl) rfl (ym rfl rfl (Zk rfl rfl ?_)))))))
 refine Zg (Zh rfl Tryz.f42' rfl (by decide) rfl) rfl (Zk rfl rfl (Zg (Zi rfl Tryz.k9 rfl rfl rfl (vs := [_]) rfl rfl rfl) rfl (Zk rfl rfl (Zg (Zba rfl rfl rfl) rfl (Zg (Zl rfl rfl rfl) rfl (ym rfl rfl (Zk rfl rfl ?_)))))))
 refine Zg (Zh rfl Tryz.f42' rfl (by decide) rfl) rfl (Zk rfl rfl (Zg (Zi rfl Tryz.k35 rfl rfl rfl (vs := [_]) rfl rfl rfl) rfl (Zk rfl rfl (Zv rfl rfl ?_))))
 refine Zaa (caps := []) trivial rfl rfl Tryz.c21 rfl (FnP.mono (refPlain_fn (szI [textI sec1S]) _ [textI sec1S] uX (Nat.le_refl _) (by simp [textI, szI, sz1]) (by simp [txI, txI1, textI, sec1S]) hkids) ?_)
 rintro v u1 hle1 rfl
 refine Zk rfl rfl (Zg (Zba rfl rfl rfl) rfl (Zg (Zl rfl rfl rfl) rfl (ym rfl rfl (Zk rfl rfl (Zg (Zi rfl Tryz.k25 rfl rfl rfl (vs := [_, _]) rfl rfl rfl) rfl (Zk rfl rfl (Zv rfl rfl ?_)))))))
 refine Zbm (caps := []) trivial rfl rfl Tryz.c16 rfl (FnP.mono (labNames_fn nilV _ docW uX (by rw [W_sz.1]; decide) hW) ?_)
 rintro v uN hle0 ⟨nad, ncap, rfl, hn1⟩ hleN
 refine Zk rfl rfl (Zg (Zaq rfl rfl Tryz.s37 rfl) rfl (Zk rfl rfl (Zg (Zaw rfl rfl rfl) rfl (Zg (Zl rfl rfl rfl) rfl (ya rfl rfl (Zf (ρ' := [(0, _)]) ⟨rfl, trivial⟩ ?_))))))
 refine Zc (Zw (Zbe (.tmp rfl) ?_))
 rw [W_names]; rfl
end Go.Proofs.Ythkgcakpjknlbaa
namespace Go.Eng
open Go Go.RowKit
section
variable {F : Fx} {ρ : Env} {σ : Own} {u : View} {Q : Post} {σS : Own} {uS : View} {o : Oper}
end
end Go.Eng
namespace Go.Proofs.Ythkgcakpjknlbaa
open Go Go.Eng
set_option linter.unusedSimpArgs false
set_option linter.unusedVariables false
set_option maxRecDepth 4000
theorem ResR.norm {u : View} {mts : List (Bs × Bs)} {lang : Bs} {ps : List (Bs × Bs)} {bs : List Blk} {r : Value} (h : ResR u mts lang ps bs r) : ∃ pad pcap bad bcap, r = .tuple #[.agg #[.slice pad (if resErr lang bs = 0 then mts else []).length pcap, .slice bad (if resErr lang bs = 0 then resDoc lang ps bs else []).length bcap], .int .i64 (resErr lang bs)] ∧ PrS u (.slice pad (if resErr lang bs = 0 then mts else []).length pcap) (if resErr lang bs = 0 then mts else []) ∧ BlkS u (.slice bad (if resErr lang bs = 0 then resDoc lang ps bs else []).length bcap) (if resErr lang bs = 0 then resDoc lang ps bs else []) := by
 rcases h with ⟨h, vm, vb, rfl, h1, h2⟩ | ⟨h, rfl⟩
 ·
  rw [if_pos h, if_pos h]
  have h3 := h1
  have h4 := h2
  obtain ⟨pad, pcap, rfl, _⟩ := h3
  obtain ⟨_, ⟨bad, bcap, rfl, _⟩, _⟩ := h4
  exact ⟨pad, pcap, bad, bcap, by rw [h], h1, h2⟩
 ·
  rw [if_neg h, if_neg h]
  exact ⟨none, 0, none, 0, rfl, nilPr _, nilBlk _⟩
theorem byte_at {s : Bs} {i : Nat} (h : i < s.length) : ∃ c, s[i]? = some c ∧ c.toNat < 256 := ⟨s[i], List.getElem?_eq_getElem h, UInt8.toNat_lt _⟩
theorem kmore_fn (s : Bs) (i : Nat) (lo hi : Int) (hi0 : i ≤ 1099511627776) (hs : s.length ≤ 1099511627776) (u : View) : FnP Tryz.prog 132 [str s, .int .i64 i, .int .i64 lo, .int .i64 hi] u fun r _ => ∃ z : Int, r = .int .i64 z ∧ -128 ≤ z ∧ z ≤ 127 := by
 refine FnP.intro [.tmp 8] Tryz.func132 rfl rfl rfl ?_
 intro w0 D hw0
 refine Zd (Za (ya rfl rfl (Zf (ρ' := [(0, _), (1, _), (2, _), (3, _)]) ⟨rfl, rfl, rfl, rfl, trivial⟩ ?_)))
 refine Zc (Zd (Zd (Za (ym rfl rfl (ym rfl rfl (Zg (Zao rfl rfl Tryz.str9 rfl) rfl (Zg (Zci rfl rfl rfl) rfl ?_)))))))
 refine ym rfl rfl ?_
 refine Zae 13 rfl (fun hg1_4 => ?_) (fun hg1_4 => ?_)
 ·
  iterate 6 refine Zt rfl rfl rfl rfl ?_
  refine Zg (Zl rfl rfl rfl) rfl (ym rfl rfl ?_)
  iterate 6 refine Zt rfl rfl rfl rfl ?_
  refine Zg (Zl rfl rfl rfl) rfl (Zf (ρ' := [(0, _), (1, _), (28, _)]) ⟨rfl, rfl, rfl, trivial⟩ ?_)
  refine Zc (Zcr rfl (rfl) (Zd (Za (ya rfl rfl (Zf (ρ' := [(8, _)]) ⟨rfl, trivial⟩ ?_)))))
  refine Zc (Zw (Zj (Zbe (.tmp rfl) ?_)))
  first | exact ⟨-1, rfl, by decide, by decide⟩ | exact ⟨_, rfl, by omega, by omega⟩
 ·
  refine Zk rfl rfl (ym rfl rfl ?_)
  have hlt : i < s.length := by have := of_decide_eq_false hg1_4; omega
  obtain ⟨c, hc, hc2⟩ := byte_at hlt
  refine Zk rfl rfl (ym rfl rfl (Zk rfl rfl (Zg (Zat rfl Tryz.str9 rfl rfl (by first | rfl | omega) (by assumption)) rfl (Zk rfl rfl (Zg (y_conv rfl Tryz.u5 Tryz.u3 rfl (Zs (by omega))) rfl ?_)))))
  refine Zk rfl rfl (ym rfl rfl (Zk rfl rfl (Zg (Zbn rfl rfl rfl) rfl (Zg (Zn rfl rfl rfl) rfl (ym rfl rfl ?_)))))
  refine Zae 21 rfl (fun hg1_12 => ?_) (fun hg1_12 => ?_)
  ·
   iterate 6 refine Zt rfl rfl rfl rfl ?_
   refine Zg (Zl rfl rfl rfl) rfl (Zf (ρ' := [(0, _), (1, _), (28, _)]) ⟨rfl, rfl, rfl, trivial⟩ ?_)
   refine Zc (Zcr rfl (rfl) (Zd (Za (ya rfl rfl (Zf (ρ' := [(8, _)]) ⟨rfl, trivial⟩ ?_)))))
   refine Zc (Zw (Zj (Zbe (.tmp rfl) ?_)))
   first | exact ⟨-1, rfl, by decide, by decide⟩ | exact ⟨_, rfl, by omega, by omega⟩
  ·
   refine Zk rfl rfl (ym rfl rfl (Zk rfl rfl (ym rfl rfl (Zk rfl rfl (Zg (Zat rfl Tryz.str9 rfl rfl (by first | rfl | omega) (by assumption)) rfl (Zk rfl rfl (Zg (y_conv rfl Tryz.u5 Tryz.u3 rfl (Zs (by omega))) rfl ?_)))))))
   refine Zk rfl rfl (ym rfl rfl (Zk rfl rfl (Zg (Zcn rfl rfl rfl) rfl (Zg (Zn rfl rfl rfl) rfl (Zf (ρ' := [(0, _), (1, _), (28, _)]) ⟨rfl, rfl, rfl, trivial⟩ ?_)))))
   refine Zc ?_
   refine Zo rfl (fun hb2 => ?_) (fun hb2 => ?_)
   ·
    refine Zd (Za (ya rfl rfl (Zf (ρ' := [(8, _)]) ⟨rfl, trivial⟩ ?_)))
    refine Zc (Zw (Zj (Zbe (.tmp rfl) ?_)))
    first | exact ⟨-1, rfl, by decide, by decide⟩ | exact ⟨_, rfl, by omega, by omega⟩
   ·
    refine Zr (Zc (Zd (Za (ym rfl rfl (ym rfl rfl (Zg (Zat rfl Tryz.str9 rfl rfl (by first | rfl | omega) (by assumption)) rfl (Zg (y_conv rfl Tryz.u5 Tryz.u3 rfl (Zs (by omega))) rfl ?_)))))))
    refine Zg (y_sub rfl rfl rfl (Zs (by omega))) rfl ?_
    refine ya rfl rfl (Zf (ρ' := [(8, _)]) ⟨rfl, trivial⟩ ?_)
    refine Zc (Zw (Zbe (.tmp rfl) ?_))
    first | exact ⟨-1, rfl, by decide, by decide⟩ | exact ⟨_, rfl, by omega, by omega⟩
def PtV (r : Value) (z : Nat) : Prop := ∃ C N : Int, r = .agg #[.int .i64 C, .int .i64 N] ∧ -1000000000 ≤ C ∧ C ≤ 1000000000 ∧ 1 ≤ N ∧ N ≤ 4
theorem kthree_fn (s : Bs) (i : Nat) (hlt : i < s.length) (hs : s.length ≤ 1000000000) (u : View) : FnP Tryz.prog 133 [str s, .int .i64 i] u fun r _ => PtV r 0 := by
 obtain ⟨c, hc, hc2⟩ := byte_at hlt
 refine FnP.intro [.cell 4 135] Tryz.func133 rfl rfl rfl ?_
 intro w0 D hw0
 refine Zd (Za (Zv rfl rfl ?_))
 refine Zas trivial Tryz.z135 rfl rfl rfl ?_
 refine Zf (ρ' := [(0, _), (1, _), (4, _)]) ⟨rfl, rfl, rfl, trivial⟩ ?_
 refine Zc (Zd (Za (ym rfl rfl (ym rfl rfl (Zg (Zat rfl Tryz.str9 rfl rfl (by first | rfl | omega) (by assumption)) rfl (Zg (y_conv rfl Tryz.u5 Tryz.u3 rfl (Zs (by omega))) rfl ?_))))))
 refine ya rfl rfl (Zf (ρ' := [(0, _), (1, _), (4, _), (5, _)]) ⟨rfl, rfl, rfl, rfl, trivial⟩ ?_)
 refine Zc (Zd (Za (ya rfl rfl (Zf (ρ' := [(0, _), (1, _), (4, _), (5, _), (6, _)]) ⟨rfl, rfl, rfl, rfl, rfl, trivial⟩ ?_))))
 refine Zc (Zd (Za (ya rfl rfl (Zf (ρ' := [(0, _), (1, _), (4, _), (5, _), (6, _), (7, _)]) ⟨rfl, rfl, rfl, rfl, rfl, rfl, trivial⟩ ?_))))
 refine Zc ?_
 refine Zbu (fun ρ σ uc6 => ∃ (lo : Int), VLe u uc6 ∧ σ = [(4, (none, .box [.int .i64 0, .int .i64 0]))] ∧ ρ = [(0, .v (str s)), (1, .v (.int .i64 i)), (4, .p 4 0), (5, .v (.int .i64 c.toNat)), (6, .v (.int .i64 lo)), (7, .v (.int .i64 191))] ∧ (u = uc6)) ?_ ?_
 ·
  refine Zd (Za (ym rfl rfl (Zg (Zaw rfl rfl rfl) rfl (Zf (ρ' := [(0, _), (1, _), (4, _), (5, _), (6, _), (7, _), (15, _)]) ⟨rfl, rfl, rfl, rfl, rfl, rfl, rfl, trivial⟩ ?_))))
  refine Zc ?_
  refine Zo rfl (fun hb4 => ?_) (fun hb4 => ?_)
  ·
   refine Za (ya rfl rfl (Zf (ρ' := [(0, _), (1, _), (4, _), (5, _), (6, _), (7, _)]) ⟨rfl, rfl, rfl, rfl, rfl, rfl, trivial⟩ ?_))
   refine Zab ?_
   first
    | (refine ⟨[(0, _), (1, _), (4, _), (5, _), (6, _), (7, _)], [(4, _)], ⟨rfl, rfl, rfl, rfl, rfl, rfl, trivial⟩, ⟨rfl, trivial⟩, 160, (VLe.refl _), rfl, rfl, ?_⟩
       rfl)
    | (refine ⟨[(0, _), (1, _), (4, _), (5, _), (6, _), (7, _)], [(4, _)], ⟨rfl, rfl, rfl, rfl, rfl, rfl, trivial⟩, ⟨rfl, trivial⟩, 128, (VLe.refl _), rfl, rfl, ?_⟩
       rfl)
  ·
   refine Zr (Zab ?_)
   first
    | (refine ⟨[(0, _), (1, _), (4, _), (5, _), (6, _), (7, _)], [(4, _)], ⟨rfl, rfl, rfl, rfl, rfl, rfl, trivial⟩, ⟨rfl, trivial⟩, 160, (VLe.refl _), rfl, rfl, ?_⟩
       rfl)
    | (refine ⟨[(0, _), (1, _), (4, _), (5, _), (6, _), (7, _)], [(4, _)], ⟨rfl, rfl, rfl, rfl, rfl, rfl, trivial⟩, ⟨rfl, trivial⟩, 128, (VLe.refl _), rfl, rfl, ?_⟩
       rfl)
 ·
  rintro ρ σ uc6 ⟨lo, hlc6, rfl, rfl, rfl⟩
  refine Zbu (fun ρ σ uc8 => ∃ (hi : Int), VLe u uc8 ∧ σ = [(4, (none, .box [.int .i64 0, .int .i64 0]))] ∧ ρ = [(0, .v (str s)), (1, .v (.int .i64 i)), (4, .p 4 0), (5, .v (.int .i64 c.toNat)), (6, .v (.int .i64 lo)), (7, .v (.int .i64 hi))] ∧ (u = uc8)) ?_ ?_
  ·
   refine Zd (Za (ym rfl rfl (Zg (Zaw rfl rfl rfl) rfl (Zf (ρ' := [(0, _), (1, _), (4, _), (5, _), (6, _), (7, _), (17, _)]) ⟨rfl, rfl, rfl, rfl, rfl, rfl, rfl, trivial⟩ ?_))))
   refine Zc ?_
   refine Zo rfl (fun hb6 => ?_) (fun hb6 => ?_)
   ·
    refine Za (ya rfl rfl (Zf (ρ' := [(0, _), (1, _), (4, _), (5, _), (6, _), (7, _)]) ⟨rfl, rfl, rfl, rfl, rfl, rfl, trivial⟩ ?_))
    refine Zab ?_
    first
     | (refine ⟨[(0, _), (1, _), (4, _), (5, _), (6, _), (7, _)], [(4, _)], ⟨rfl, rfl, rfl, rfl, rfl, rfl, trivial⟩, ⟨rfl, trivial⟩, 159, (VLe.refl _), rfl, rfl, ?_⟩
        rfl)
     | (refine ⟨[(0, _), (1, _), (4, _), (5, _), (6, _), (7, _)], [(4, _)], ⟨rfl, rfl, rfl, rfl, rfl, rfl, trivial⟩, ⟨rfl, trivial⟩, 191, (VLe.refl _), rfl, rfl, ?_⟩
        rfl)
   ·
    refine Zr (Zab ?_)
    first
     | (refine ⟨[(0, _), (1, _), (4, _), (5, _), (6, _), (7, _)], [(4, _)], ⟨rfl, rfl, rfl, rfl, rfl, rfl, trivial⟩, ⟨rfl, trivial⟩, 159, (VLe.refl _), rfl, rfl, ?_⟩
        rfl)
     | (refine ⟨[(0, _), (1, _), (4, _), (5, _), (6, _), (7, _)], [(4, _)], ⟨rfl, rfl, rfl, rfl, rfl, rfl, trivial⟩, ⟨rfl, trivial⟩, 191, (VLe.refl _), rfl, rfl, ?_⟩
        rfl)
  ·
   rintro ρ σ uc8 ⟨hi, hlc8, rfl, rfl, rfl⟩
   refine Zd (Za (ym rfl rfl (ym rfl rfl (Zg (Zav rfl rfl rfl (Zs (by omega))) rfl ?_))))
   refine ym rfl rfl (ym rfl rfl (Zv rfl rfl ?_))
   refine Zaa (caps := []) trivial rfl rfl Tryz.c132 rfl (FnP.mono (kmore_fn s (i + 1) lo hi (by omega) (by omega) u) ?_)
   rintro v u1 hle1 ⟨x, rfl, hx1, hx2⟩
   refine ya rfl rfl (Zf (ρ' := [(0, _), (1, _), (4, _), (5, _), (8, _)]) ⟨rfl, rfl, rfl, rfl, rfl, trivial⟩ ?_)
   refine Zc (Zd (Za (ym rfl rfl (ym rfl rfl (Zg (Zav rfl rfl rfl (Zs (by omega))) rfl ?_)))))
   refine Zv rfl rfl ?_
   refine Zaa (caps := []) trivial rfl rfl Tryz.c132 rfl (FnP.mono (kmore_fn s (i + 2) 128 191 (by omega) (by omega) u) ?_)
   rintro v u1 hle1 ⟨y, rfl, hy1, hy2⟩
   refine ya rfl rfl (Zf (ρ' := [(4, _), (5, _), (8, _), (9, _)]) ⟨rfl, rfl, rfl, rfl, trivial⟩ ?_)
   refine Zc (Zd (Zd (Za (ym rfl rfl (Zg (Zbn rfl rfl rfl) rfl (ym rfl rfl ?_))))))
   refine Zae 30 rfl (fun hg10_2 => ?_) (fun hg10_2 => ?_)
   ·
    refine Zt rfl rfl rfl rfl (Zt rfl rfl rfl rfl (Zg (Zl rfl rfl rfl) rfl (Zf (ρ' := [(4, _), (5, _), (8, _), (9, _), (33, _)]) ⟨rfl, rfl, rfl, rfl, rfl, trivial⟩ ?_)))
    refine Zc (Zcr rfl (rfl) (Zd (Za (Zg (Zbf rfl Tryz.f135' Tryz.z135 (ps := [(_, _), (_, _)]) rfl (vs := [_, _]) rfl) rfl ?_))))
    refine Zv rfl rfl ?_
    refine Zm trivial rfl Tryz.k135 rfl rfl rfl (vs := [_, _]) rfl rfl (by first | rfl | assumption | simp [Value.oneCell', str]) (Nat.le_of_ble_eq_true rfl) rfl ?_
    refine Zf (ρ' := [(4, _)]) ⟨rfl, trivial⟩ ?_
    refine Zc (Zw (Zj ?_))
    refine Zbe (.cell rfl rfl Tryz.k135 (cs := _) (vs := [_, _]) rfl rfl rfl) ?_
    first | exact ⟨_, _, rfl, by decide, by decide, by decide, by decide⟩ | exact ⟨_, _, rfl, by omega, by omega, by decide, by decide⟩
   ·
    refine Zk rfl rfl (ym rfl rfl (Zk rfl rfl (Zg (Zbn rfl rfl rfl) rfl (Zg (Zn rfl rfl rfl) rfl (Zf (ρ' := [(4, _), (5, _), (8, _), (9, _), (33, _)]) ⟨rfl, rfl, rfl, rfl, rfl, trivial⟩ ?_)))))
    refine Zc ?_
    refine Zo rfl (fun hb11 => ?_) (fun hb11 => ?_)
    ·
     refine Zd (Za (Zg (Zbf rfl Tryz.f135' Tryz.z135 (ps := [(_, _), (_, _)]) rfl (vs := [_, _]) rfl) rfl ?_))
     refine Zv rfl rfl ?_
     refine Zm trivial rfl Tryz.k135 rfl rfl rfl (vs := [_, _]) rfl rfl (by first | rfl | assumption | simp [Value.oneCell', str]) (Nat.le_of_ble_eq_true rfl) rfl ?_
     refine Zf (ρ' := [(4, _)]) ⟨rfl, trivial⟩ ?_
     refine Zc (Zw (Zj ?_))
     refine Zbe (.cell rfl rfl Tryz.k135 (cs := _) (vs := [_, _]) rfl rfl rfl) ?_
     first | exact ⟨_, _, rfl, by decide, by decide, by decide, by decide⟩ | exact ⟨_, _, rfl, by omega, by omega, by decide, by decide⟩
    ·
     refine Zr (Zc (Zd (Za (ym rfl rfl (Zg (y_sub rfl rfl rfl (Zs (by omega))) rfl ?_)))))
     refine Zg (y_mul rfl rfl rfl (Zs (by omega))) rfl ?_
     refine ym rfl rfl (Zg (y_mul rfl rfl rfl (Zs (by omega))) rfl ?_)
     refine Zg (Zav rfl rfl rfl (Zs (by omega))) rfl ?_
     refine ym rfl rfl (Zg (Zav rfl rfl rfl (Zs (by omega))) rfl ?_)
     refine Zg (Zbf rfl Tryz.f135' Tryz.z135 (ps := [(_, _), (_, _)]) rfl (vs := [_, _]) rfl) rfl ?_
     refine Zv rfl rfl ?_
     refine Zm trivial rfl Tryz.k135 rfl rfl rfl (vs := [_, _]) rfl rfl (by first | rfl | assumption | simp [Value.oneCell', str]) (Nat.le_of_ble_eq_true rfl) rfl ?_
     refine Zf (ρ' := [(4, _)]) ⟨rfl, trivial⟩ ?_
     refine Zc (Zw ?_)
     refine Zbe (.cell rfl rfl Tryz.k135 (cs := _) (vs := [_, _]) rfl rfl rfl) ?_
     first | exact ⟨_, _, rfl, by decide, by decide, by decide, by decide⟩ | exact ⟨_, _, rfl, by omega, by omega, by decide, by decide⟩
theorem kfour_fn (s : Bs) (i : Nat) (hlt : i < s.length) (hs : s.length ≤ 1000000000) (u : View) : FnP Tryz.prog 134 [str s, .int .i64 i] u fun r _ => PtV r 0 := by
 obtain ⟨c, hc, hc2⟩ := byte_at hlt
 refine FnP.intro [.cell 4 135] Tryz.func134 rfl rfl rfl ?_
 intro w0 D hw0
 refine Zd (Za (Zv rfl rfl ?_))
 refine Zas trivial Tryz.z135 rfl rfl rfl ?_
 refine Zf (ρ' := [(0, _), (1, _), (4, _)]) ⟨rfl, rfl, rfl, trivial⟩ ?_
 refine Zc (Zd (Za (ym rfl rfl (ym rfl rfl (Zg (Zat rfl Tryz.str9 rfl rfl (by first | rfl | omega) (by assumption)) rfl (Zg (y_conv rfl Tryz.u5 Tryz.u3 rfl (Zs (by omega))) rfl ?_))))))
 refine ya rfl rfl (Zf (ρ' := [(0, _), (1, _), (4, _), (5, _)]) ⟨rfl, rfl, rfl, rfl, trivial⟩ ?_)
 refine Zc (Zd (Za (ya rfl rfl (Zf (ρ' := [(0, _), (1, _), (4, _), (5, _), (6, _)]) ⟨rfl, rfl, rfl, rfl, rfl, trivial⟩ ?_))))
 refine Zc (Zd (Za (ya rfl rfl (Zf (ρ' := [(0, _), (1, _), (4, _), (5, _), (6, _), (7, _)]) ⟨rfl, rfl, rfl, rfl, rfl, rfl, trivial⟩ ?_))))
 refine Zc ?_
 refine Zbu (fun ρ σ uc6 => ∃ (lo : Int), VLe u uc6 ∧ σ = [(4, (none, .box [.int .i64 0, .int .i64 0]))] ∧ ρ = [(0, .v (str s)), (1, .v (.int .i64 i)), (4, .p 4 0), (5, .v (.int .i64 c.toNat)), (6, .v (.int .i64 lo)), (7, .v (.int .i64 191))] ∧ (u = uc6)) ?_ ?_
 ·
  refine Zd (Za (ym rfl rfl (Zg (Zaw rfl rfl rfl) rfl (Zf (ρ' := [(0, _), (1, _), (4, _), (5, _), (6, _), (7, _), (16, _)]) ⟨rfl, rfl, rfl, rfl, rfl, rfl, rfl, trivial⟩ ?_))))
  refine Zc ?_
  refine Zo rfl (fun hb4 => ?_) (fun hb4 => ?_)
  ·
   refine Za (ya rfl rfl (Zf (ρ' := [(0, _), (1, _), (4, _), (5, _), (6, _), (7, _)]) ⟨rfl, rfl, rfl, rfl, rfl, rfl, trivial⟩ ?_))
   refine Zab ?_
   first
    | (refine ⟨[(0, _), (1, _), (4, _), (5, _), (6, _), (7, _)], [(4, _)], ⟨rfl, rfl, rfl, rfl, rfl, rfl, trivial⟩, ⟨rfl, trivial⟩, 144, (VLe.refl _), rfl, rfl, ?_⟩
       rfl)
    | (refine ⟨[(0, _), (1, _), (4, _), (5, _), (6, _), (7, _)], [(4, _)], ⟨rfl, rfl, rfl, rfl, rfl, rfl, trivial⟩, ⟨rfl, trivial⟩, 128, (VLe.refl _), rfl, rfl, ?_⟩
       rfl)
  ·
   refine Zr (Zab ?_)
   first
    | (refine ⟨[(0, _), (1, _), (4, _), (5, _), (6, _), (7, _)], [(4, _)], ⟨rfl, rfl, rfl, rfl, rfl, rfl, trivial⟩, ⟨rfl, trivial⟩, 144, (VLe.refl _), rfl, rfl, ?_⟩
       rfl)
    | (refine ⟨[(0, _), (1, _), (4, _), (5, _), (6, _), (7, _)], [(4, _)], ⟨rfl, rfl, rfl, rfl, rfl, rfl, trivial⟩, ⟨rfl, trivial⟩, 128, (VLe.refl _), rfl, rfl, ?_⟩
       rfl)
 ·
  rintro ρ σ uc6 ⟨lo, hlc6, rfl, rfl, rfl⟩
  refine Zbu (fun ρ σ uc8 => ∃ (hi : Int), VLe u uc8 ∧ σ = [(4, (none, .box [.int .i64 0, .int .i64 0]))] ∧ ρ = [(0, .v (str s)), (1, .v (.int .i64 i)), (4, .p 4 0), (5, .v (.int .i64 c.toNat)), (6, .v (.int .i64 lo)), (7, .v (.int .i64 hi))] ∧ (u = uc8)) ?_ ?_
  ·
   refine Zd (Za (ym rfl rfl (Zg (Zaw rfl rfl rfl) rfl (Zf (ρ' := [(0, _), (1, _), (4, _), (5, _), (6, _), (7, _), (18, _)]) ⟨rfl, rfl, rfl, rfl, rfl, rfl, rfl, trivial⟩ ?_))))
   refine Zc ?_
   refine Zo rfl (fun hb6 => ?_) (fun hb6 => ?_)
   ·
    refine Za (ya rfl rfl (Zf (ρ' := [(0, _), (1, _), (4, _), (5, _), (6, _), (7, _)]) ⟨rfl, rfl, rfl, rfl, rfl, rfl, trivial⟩ ?_))
    refine Zab ?_
    first
     | (refine ⟨[(0, _), (1, _), (4, _), (5, _), (6, _), (7, _)], [(4, _)], ⟨rfl, rfl, rfl, rfl, rfl, rfl, trivial⟩, ⟨rfl, trivial⟩, 143, (VLe.refl _), rfl, rfl, ?_⟩
        rfl)
     | (refine ⟨[(0, _), (1, _), (4, _), (5, _), (6, _), (7, _)], [(4, _)], ⟨rfl, rfl, rfl, rfl, rfl, rfl, trivial⟩, ⟨rfl, trivial⟩, 191, (VLe.refl _), rfl, rfl, ?_⟩
        rfl)
   ·
    refine Zr (Zab ?_)
    first
     | (refine ⟨[(0, _), (1, _), (4, _), (5, _), (6, _), (7, _)], [(4, _)], ⟨rfl, rfl, rfl, rfl, rfl, rfl, trivial⟩, ⟨rfl, trivial⟩, 143, (VLe.refl _), rfl, rfl, ?_⟩
        rfl)
     | (refine ⟨[(0, _), (1, _), (4, _), (5, _), (6, _), (7, _)], [(4, _)], ⟨rfl, rfl, rfl, rfl, rfl, rfl, trivial⟩, ⟨rfl, trivial⟩, 191, (VLe.refl _), rfl, rfl, ?_⟩
        rfl)
  ·
   rintro ρ σ uc8 ⟨hi, hlc8, rfl, rfl, rfl⟩
   refine Zd (Za (ym rfl rfl (ym rfl rfl (Zg (Zav rfl rfl rfl (Zs (by omega))) rfl ?_))))
   refine ym rfl rfl (ym rfl rfl (Zv rfl rfl ?_))
   refine Zaa (caps := []) trivial rfl rfl Tryz.c132 rfl (FnP.mono (kmore_fn s (i + 1) lo hi (by omega) (by omega) u) ?_)
   rintro v u1 hle1 ⟨x, rfl, hx1, hx2⟩
   refine ya rfl rfl (Zf (ρ' := [(0, _), (1, _), (4, _), (5, _), (8, _)]) ⟨rfl, rfl, rfl, rfl, rfl, trivial⟩ ?_)
   refine Zc (Zd (Za (ym rfl rfl (ym rfl rfl (Zg (Zav rfl rfl rfl (Zs (by omega))) rfl ?_)))))
   refine Zv rfl rfl ?_
   refine Zaa (caps := []) trivial rfl rfl Tryz.c132 rfl (FnP.mono (kmore_fn s (i + 2) 128 191 (by omega) (by omega) u) ?_)
   rintro v u1 hle1 ⟨y, rfl, hy1, hy2⟩
   refine ya rfl rfl (Zf (ρ' := [(0, _), (1, _), (4, _), (5, _), (8, _), (9, _)]) ⟨rfl, rfl, rfl, rfl, rfl, rfl, trivial⟩ ?_)
   refine Zc (Zd (Za (ym rfl rfl (ym rfl rfl (Zg (Zav rfl rfl rfl (Zs (by omega))) rfl ?_)))))
   refine Zv rfl rfl ?_
   refine Zaa (caps := []) trivial rfl rfl Tryz.c132 rfl (FnP.mono (kmore_fn s (i + 3) 128 191 (by omega) (by omega) u) ?_)
   rintro v u1 hle1 ⟨z, rfl, hz1, hz2⟩
   refine ya rfl rfl (Zf (ρ' := [(4, _), (5, _), (8, _), (9, _), (10, _)]) ⟨rfl, rfl, rfl, rfl, rfl, trivial⟩ ?_)
   refine Zc (Zd (Zd (Za (ym rfl rfl (Zg (Zbn rfl rfl rfl) rfl (ym rfl rfl ?_))))))
   refine Zae 35 rfl (fun hg11_2 => ?_) (fun hg11_2 => ?_)
   ·
    refine Zt rfl rfl rfl rfl (Zt rfl rfl rfl rfl (Zg (Zl rfl rfl rfl) rfl (ym rfl rfl (Zt rfl rfl rfl rfl (Zt rfl rfl rfl rfl (Zg (Zl rfl rfl rfl) rfl (Zf (ρ' := [(4, _), (5, _), (8, _), (9, _), (10, _), (42, _)]) ⟨rfl, rfl, rfl, rfl, rfl, rfl, trivial⟩ ?_)))))))
    refine Zc (Zcr rfl (rfl) (Zd (Za (Zg (Zbf rfl Tryz.f135' Tryz.z135 (ps := [(_, _), (_, _)]) rfl (vs := [_, _]) rfl) rfl ?_))))
    refine Zv rfl rfl ?_
    refine Zm trivial rfl Tryz.k135 rfl rfl rfl (vs := [_, _]) rfl rfl (by first | rfl | assumption | simp [Value.oneCell', str]) (Nat.le_of_ble_eq_true rfl) rfl ?_
    refine Zf (ρ' := [(4, _)]) ⟨rfl, trivial⟩ ?_
    refine Zc (Zw (Zj ?_))
    refine Zbe (.cell rfl rfl Tryz.k135 (cs := _) (vs := [_, _]) rfl rfl rfl) ?_
    first | exact ⟨_, _, rfl, by decide, by decide, by decide, by decide⟩ | exact ⟨_, _, rfl, by omega, by omega, by decide, by decide⟩
   ·
    refine Zk rfl rfl (ym rfl rfl (Zk rfl rfl (Zg (Zbn rfl rfl rfl) rfl (Zg (Zn rfl rfl rfl) rfl (ym rfl rfl ?_)))))
    refine Zae 39 rfl (fun hg11_6 => ?_) (fun hg11_6 => ?_)
    ·
     refine Zt rfl rfl rfl rfl (Zt rfl rfl rfl rfl (Zg (Zl rfl rfl rfl) rfl (Zf (ρ' := [(4, _), (5, _), (8, _), (9, _), (10, _), (42, _)]) ⟨rfl, rfl, rfl, rfl, rfl, rfl, trivial⟩ ?_)))
     refine Zc (Zcr rfl (rfl) (Zd (Za (Zg (Zbf rfl Tryz.f135' Tryz.z135 (ps := [(_, _), (_, _)]) rfl (vs := [_, _]) rfl) rfl ?_))))
     refine Zv rfl rfl ?_
     refine Zm trivial rfl Tryz.k135 rfl rfl rfl (vs := [_, _]) rfl rfl (by first | rfl | assumption | simp [Value.oneCell', str]) (Nat.le_of_ble_eq_true rfl) rfl ?_
     refine Zf (ρ' := [(4, _)]) ⟨rfl, trivial⟩ ?_
     refine Zc (Zw (Zj ?_))
     refine Zbe (.cell rfl rfl Tryz.k135 (cs := _) (vs := [_, _]) rfl rfl rfl) ?_
     first | exact ⟨_, _, rfl, by decide, by decide, by decide, by decide⟩ | exact ⟨_, _, rfl, by omega, by omega, by decide, by decide⟩
    ·
     refine Zk rfl rfl (ym rfl rfl (Zk rfl rfl (Zg (Zbn rfl rfl rfl) rfl (Zg (Zn rfl rfl rfl) rfl (Zf (ρ' := [(4, _), (5, _), (8, _), (9, _), (10, _), (42, _)]) ⟨rfl, rfl, rfl, rfl, rfl, rfl, trivial⟩ ?_)))))
     refine Zc ?_
     refine Zo rfl (fun hb12 => ?_) (fun hb12 => ?_)
     ·
      refine Zd (Za (Zg (Zbf rfl Tryz.f135' Tryz.z135 (ps := [(_, _), (_, _)]) rfl (vs := [_, _]) rfl) rfl ?_))
      refine Zv rfl rfl ?_
      refine Zm trivial rfl Tryz.k135 rfl rfl rfl (vs := [_, _]) rfl rfl (by first | rfl | assumption | simp [Value.oneCell', str]) (Nat.le_of_ble_eq_true rfl) rfl ?_
      refine Zf (ρ' := [(4, _)]) ⟨rfl, trivial⟩ ?_
      refine Zc (Zw (Zj ?_))
      refine Zbe (.cell rfl rfl Tryz.k135 (cs := _) (vs := [_, _]) rfl rfl rfl) ?_
      first | exact ⟨_, _, rfl, by decide, by decide, by decide, by decide⟩ | exact ⟨_, _, rfl, by omega, by omega, by decide, by decide⟩
     ·
      refine Zr (Zc (Zd (Za (ym rfl rfl (Zg (y_sub rfl rfl rfl (Zs (by omega))) rfl ?_)))))
      refine Zg (y_mul rfl rfl rfl (Zs (by omega))) rfl ?_
      refine ym rfl rfl (Zg (y_mul rfl rfl rfl (Zs (by omega))) rfl ?_)
      refine Zg (Zav rfl rfl rfl (Zs (by omega))) rfl ?_
      refine ym rfl rfl (Zg (y_mul rfl rfl rfl (Zs (by omega))) rfl ?_)
      refine Zg (Zav rfl rfl rfl (Zs (by omega))) rfl ?_
      refine ym rfl rfl (Zg (Zav rfl rfl rfl (Zs (by omega))) rfl ?_)
      refine Zg (Zbf rfl Tryz.f135' Tryz.z135 (ps := [(_, _), (_, _)]) rfl (vs := [_, _]) rfl) rfl ?_
      refine Zv rfl rfl ?_
      refine Zm trivial rfl Tryz.k135 rfl rfl rfl (vs := [_, _]) rfl rfl (by first | rfl | assumption | simp [Value.oneCell', str]) (Nat.le_of_ble_eq_true rfl) rfl ?_
      refine Zf (ρ' := [(4, _)]) ⟨rfl, trivial⟩ ?_
      refine Zc (Zw ?_)
      refine Zbe (.cell rfl rfl Tryz.k135 (cs := _) (vs := [_, _]) rfl rfl rfl) ?_
      first | exact ⟨_, _, rfl, by decide, by decide, by decide, by decide⟩ | exact ⟨_, _, rfl, by omega, by omega, by decide, by decide⟩
theorem kat_fn (s : Bs) (i : Nat) (hlt : i < s.length) (hs : s.length ≤ 1000000000) (u : View) : FnP Tryz.prog 115 [str s, .int .i64 i] u fun r _ => PtV r 0 := by
 obtain ⟨c, hc, hc2⟩ := byte_at hlt
 refine FnP.intro [.cell 4 135] Tryz.func115 rfl rfl rfl ?_
 intro w0 D hw0
 refine Zd (Za (Zv rfl rfl ?_))
 refine Zas trivial Tryz.z135 rfl rfl rfl ?_
 refine Zf (ρ' := [(0, _), (1, _), (4, _)]) ⟨rfl, rfl, rfl, trivial⟩ ?_
 refine Zc (Zd (Za (ym rfl rfl (ym rfl rfl (Zg (Zat rfl Tryz.str9 rfl rfl (by first | rfl | omega) (by assumption)) rfl (Zg (y_conv rfl Tryz.u5 Tryz.u3 rfl (Zs (by omega))) rfl ?_))))))
 refine ya rfl rfl (Zf (ρ' := [(0, _), (1, _), (4, _), (5, _)]) ⟨rfl, rfl, rfl, rfl, trivial⟩ ?_)
 refine Zc (Zd (Zad (Zd (Za (ym rfl rfl (Zg (Zbn rfl rfl rfl) rfl (ya rfl rfl (Zf (ρ' := [(0, _), (1, _), (4, _), (5, _), (11, _)]) ⟨rfl, rfl, rfl, rfl, rfl, trivial⟩ ?_))))))))
 refine Zc ?_
 refine Zo rfl (fun hb2 => ?_) (fun hb2 => ?_)
 ·
  refine Zd (Za (ym rfl rfl (Zg (Zbf rfl Tryz.f135' Tryz.z135 (ps := [(_, _), (_, _)]) rfl (vs := [_, _]) rfl) rfl ?_)))
  refine Zv rfl rfl ?_
  refine Zm trivial rfl Tryz.k135 rfl rfl rfl (vs := [_, _]) rfl rfl (by first | rfl | assumption | simp [Value.oneCell', str]) (Nat.le_of_ble_eq_true rfl) rfl ?_
  refine Zf (ρ' := [(4, _)]) ⟨rfl, trivial⟩ ?_
  refine Zc (Zw (Zu (Zj ?_)))
  refine Zbe (.cell rfl rfl Tryz.k135 (cs := _) (vs := [_, _]) rfl rfl rfl) ?_
  first | exact ⟨_, _, rfl, by decide, by decide, by decide, by decide⟩ | exact ⟨_, _, rfl, by omega, by omega, by omega, by omega⟩
 ·
  refine Zd (Za ?_)
  refine Zbh 6 22 (fun _ => True) (ρk := [(0, _), (1, _), (4, _), (5, _)]) ⟨rfl, rfl, rfl, rfl, trivial⟩ ?_ fun mb4_5 hm4_5 => ?_
  ·
   refine ym rfl rfl (Zg (Zci rfl rfl rfl) rfl (ym rfl rfl ?_))
   refine Zae 19 rfl (fun hg4_2 => ?_) (fun hg4_2 => ?_)
   ·
    refine Zk rfl rfl (ym rfl rfl (Zk rfl rfl (Zg (y_leq rfl rfl rfl) rfl (Zg (Zl rfl rfl rfl) rfl ?_))))
    exact Zac rfl ⟨rfl, rfl, rfl, rfl, trivial⟩ (trivial)
   ·
    refine Zt rfl rfl rfl rfl (Zt rfl rfl rfl rfl (Zg (Zn rfl rfl rfl) rfl ?_))
    exact Zac rfl ⟨rfl, rfl, rfl, rfl, trivial⟩ (trivial)
  refine ya rfl rfl (Zf (ρ' := [(0, _), (1, _), (4, _), (5, _), (16, _)]) ⟨rfl, rfl, rfl, rfl, rfl, trivial⟩ ?_)
  refine Zc ?_
  refine Zo rfl (fun hb4 => ?_) (fun hb4 => ?_)
  ·
   refine Zd (Za (ym rfl rfl (ym rfl rfl (Zg (Zav rfl rfl rfl (Zs (by omega))) rfl ?_))))
   refine Zv rfl rfl ?_
   refine Zaa (caps := []) trivial rfl rfl Tryz.c132 rfl (FnP.mono (kmore_fn s (i + 1) 128 191 (by omega) (by omega) u) ?_)
   rintro v u1 hle1 ⟨x, rfl, hx1, hx2⟩
   refine ya rfl rfl (Zf (ρ' := [(4, _), (5, _), (6, _)]) ⟨rfl, rfl, rfl, trivial⟩ ?_)
   refine Zc (Zd (Za (ym rfl rfl (Zg (Zci rfl rfl rfl) rfl (Zf (ρ' := [(4, _), (5, _), (6, _), (28, _)]) ⟨rfl, rfl, rfl, rfl, trivial⟩ ?_)))))
   refine Zc ?_
   refine Zo rfl (fun hb6 => ?_) (fun hb6 => ?_)
   ·
    refine Zd (Za (ym rfl rfl (Zg (y_sub rfl rfl rfl (Zs (by omega))) rfl ?_)))
    refine Zg (y_mul rfl rfl rfl (Zs (by omega))) rfl ?_
    refine ym rfl rfl (Zg (Zav rfl rfl rfl (Zs (by omega))) rfl ?_)
    refine Zg (Zbf rfl Tryz.f135' Tryz.z135 (ps := [(_, _), (_, _)]) rfl (vs := [_, _]) rfl) rfl ?_
    refine Zv rfl rfl ?_
    refine Zm trivial rfl Tryz.k135 rfl rfl rfl (vs := [_, _]) rfl rfl (by first | rfl | assumption | simp [Value.oneCell', str]) (Nat.le_of_ble_eq_true rfl) rfl ?_
    refine Zf (ρ' := [(4, _)]) ⟨rfl, trivial⟩ ?_
    refine Zc (Zw (Zu (Zj ?_)))
    refine Zbe (.cell rfl rfl Tryz.k135 (cs := _) (vs := [_, _]) rfl rfl rfl) ?_
    first | exact ⟨_, _, rfl, by decide, by decide, by decide, by decide⟩ | exact ⟨_, _, rfl, by omega, by omega, by omega, by omega⟩
   ·
    refine Zr (Zah (Zc (Zd (Za (Zg (Zbf rfl Tryz.f135' Tryz.z135 (ps := [(_, _), (_, _)]) rfl (vs := [_, _]) rfl) rfl ?_)))))
    refine Zv rfl rfl ?_
    refine Zm trivial rfl Tryz.k135 rfl rfl rfl (vs := [_, _]) rfl rfl (by first | rfl | assumption | simp [Value.oneCell', str]) (Nat.le_of_ble_eq_true rfl) rfl ?_
    refine Zf (ρ' := [(4, _)]) ⟨rfl, trivial⟩ ?_
    refine Zc (Zw ?_)
    refine Zbe (.cell rfl rfl Tryz.k135 (cs := _) (vs := [_, _]) rfl rfl rfl) ?_
    first | exact ⟨_, _, rfl, by decide, by decide, by decide, by decide⟩ | exact ⟨_, _, rfl, by omega, by omega, by omega, by omega⟩
  ·
   refine Zd (Za ?_)
   refine Zbh 6 41 (fun _ => True) (ρk := [(0, _), (1, _), (4, _), (5, _)]) ⟨rfl, rfl, rfl, rfl, trivial⟩ ?_ fun mb8_5 hm8_5 => ?_
   ·
    refine ym rfl rfl (Zg (Zci rfl rfl rfl) rfl (ym rfl rfl ?_))
    refine Zae 38 rfl (fun hg8_2 => ?_) (fun hg8_2 => ?_)
    ·
     refine Zk rfl rfl (ym rfl rfl (Zk rfl rfl (Zg (y_leq rfl rfl rfl) rfl (Zg (Zl rfl rfl rfl) rfl ?_))))
     exact Zac rfl ⟨rfl, rfl, rfl, rfl, trivial⟩ (trivial)
    ·
     refine Zt rfl rfl rfl rfl (Zt rfl rfl rfl rfl (Zg (Zn rfl rfl rfl) rfl ?_))
     exact Zac rfl ⟨rfl, rfl, rfl, rfl, trivial⟩ (trivial)
   refine ya rfl rfl (Zf (ρ' := [(0, _), (1, _), (4, _), (5, _), (35, _)]) ⟨rfl, rfl, rfl, rfl, rfl, trivial⟩ ?_)
   refine Zc ?_
   refine Zo rfl (fun hb8 => ?_) (fun hb8 => ?_)
   ·
    refine Zd (Za (ym rfl rfl (ym rfl rfl (Zv rfl rfl ?_))))
    refine Zaa (caps := []) trivial rfl rfl Tryz.c133 rfl (FnP.mono (kthree_fn s i hlt hs u) ?_)
    rintro v u1 hle1 ⟨C, N, rfl, hC1, hC2, hN1, hN2⟩
    refine Zv rfl rfl ?_
    refine Zm trivial rfl Tryz.k135 rfl rfl rfl (vs := [_, _]) rfl rfl (by first | rfl | assumption | simp [Value.oneCell', str]) (Nat.le_of_ble_eq_true rfl) rfl ?_
    refine Zf (ρ' := [(4, _)]) ⟨rfl, trivial⟩ ?_
    refine Zc (Zw (Zu (Zj ?_)))
    refine Zbe (.cell rfl rfl Tryz.k135 (cs := _) (vs := [_, _]) rfl rfl rfl) ?_
    first | exact ⟨_, _, rfl, by decide, by decide, by decide, by decide⟩ | exact ⟨_, _, rfl, by omega, by omega, by omega, by omega⟩
   ·
    refine Zd (Za ?_)
    refine Zbh 6 51 (fun _ => True) (ρk := [(0, _), (1, _), (4, _)]) ⟨rfl, rfl, rfl, trivial⟩ ?_ fun mb10_5 hm10_5 => ?_
    ·
     refine ym rfl rfl (Zg (Zci rfl rfl rfl) rfl (ym rfl rfl ?_))
     refine Zae 48 rfl (fun hg10_2 => ?_) (fun hg10_2 => ?_)
     ·
      refine Zk rfl rfl (ym rfl rfl (Zk rfl rfl (Zg (y_leq rfl rfl rfl) rfl (Zg (Zl rfl rfl rfl) rfl ?_))))
      exact Zac rfl ⟨rfl, rfl, rfl, trivial⟩ (trivial)
     ·
      refine Zt rfl rfl rfl rfl (Zt rfl rfl rfl rfl (Zg (Zn rfl rfl rfl) rfl ?_))
      exact Zac rfl ⟨rfl, rfl, rfl, trivial⟩ (trivial)
    refine ya rfl rfl (Zf (ρ' := [(0, _), (1, _), (4, _), (45, _)]) ⟨rfl, rfl, rfl, rfl, trivial⟩ ?_)
    refine Zc ?_
    refine Zo rfl (fun hb10 => ?_) (fun hb10 => ?_)
    ·
     refine Zd (Za (ym rfl rfl (ym rfl rfl (Zv rfl rfl ?_))))
     refine Zaa (caps := []) trivial rfl rfl Tryz.c134 rfl (FnP.mono (kfour_fn s i hlt hs u) ?_)
     rintro v u1 hle1 ⟨C, N, rfl, hC1, hC2, hN1, hN2⟩
     refine Zv rfl rfl ?_
     refine Zm trivial rfl Tryz.k135 rfl rfl rfl (vs := [_, _]) rfl rfl (by first | rfl | assumption | simp [Value.oneCell', str]) (Nat.le_of_ble_eq_true rfl) rfl ?_
     refine Zf (ρ' := [(4, _)]) ⟨rfl, trivial⟩ ?_
     refine Zc (Zw (Zu (Zj ?_)))
     refine Zbe (.cell rfl rfl Tryz.k135 (cs := _) (vs := [_, _]) rfl rfl rfl) ?_
     first | exact ⟨_, _, rfl, by decide, by decide, by decide, by decide⟩ | exact ⟨_, _, rfl, by omega, by omega, by omega, by omega⟩
    ·
     refine Zr (Zah (Zc (Zd (Za (Zg (Zbf rfl Tryz.f135' Tryz.z135 (ps := [(_, _), (_, _)]) rfl (vs := [_, _]) rfl) rfl ?_)))))
     refine Zv rfl rfl ?_
     refine Zm trivial rfl Tryz.k135 rfl rfl rfl (vs := [_, _]) rfl rfl (by first | rfl | assumption | simp [Value.oneCell', str]) (Nat.le_of_ble_eq_true rfl) rfl ?_
     refine Zf (ρ' := [(4, _)]) ⟨rfl, trivial⟩ ?_
     refine Zc (Zw ?_)
     refine Zbe (.cell rfl rfl Tryz.k135 (cs := _) (vs := [_, _]) rfl rfl rfl) ?_
     first | exact ⟨_, _, rfl, by decide, by decide, by decide, by decide⟩ | exact ⟨_, _, rfl, by omega, by omega, by omega, by omega⟩
theorem knext_fn (s : Bs) (i : Nat) (hlt : i < s.length) (hs : s.length ≤ 1000000000) (u : View) : FnP Tryz.prog 143 [str s, .int .i64 i] u fun r _ => ∃ C N : Int, r = .tuple #[.int .i64 C, .int .i64 N] ∧ -1000000000 ≤ C ∧ C ≤ 1000000000 ∧ 1 ≤ N ∧ N ≤ 4 := by
 refine FnP.intro [.tmp 4, .tmp 5] Tryz.func143 rfl rfl rfl ?_
 intro w0 D hw0
 refine Zd (Za (ya rfl rfl (ya rfl rfl (Zf (ρ' := [(0, _), (1, _)]) ⟨rfl, rfl, trivial⟩ ?_))))
 refine Zc (Zd (Zd (Za (ym rfl rfl (Zg (Zbn rfl rfl rfl) rfl (ym rfl rfl ?_))))))
 refine Zae 9 rfl (fun hg1_2 => ?_) (fun hg1_2 => ?_)
 ·
  iterate 4 refine Zt rfl rfl rfl rfl ?_
  refine Zg (Zl rfl rfl rfl) rfl (Zf (ρ' := [(0, _), (1, _), (14, _)]) ⟨rfl, rfl, rfl, trivial⟩ ?_)
  refine Zc (Zcr rfl (rfl) (Zd (Za (ya rfl rfl (ya rfl rfl (Zf (ρ' := [(4, _), (5, _)]) ⟨rfl, rfl, trivial⟩ ?_))))))
  refine Zc (Zw (Zj ?_))
  refine fin2 (.tmp rfl) (.tmp rfl) ?_
  first | exact ⟨_, _, rfl, hC1, hC2, hN1, hN2⟩ | (have h := of_decide_eq_true hg1_2; omega) | (have h := of_decide_eq_true hb2; omega)
 ·
  refine Zk rfl rfl (ym rfl rfl (Zk rfl rfl (ym rfl rfl (Zk rfl rfl (Zg (Zao rfl rfl Tryz.str9 rfl) rfl (Zk rfl rfl (Zg (Zci rfl rfl rfl) rfl ?_)))))))
  refine Zg (Zn rfl rfl rfl) rfl (Zf (ρ' := [(0, _), (1, _), (14, _)]) ⟨rfl, rfl, rfl, trivial⟩ ?_)
  refine Zc ?_
  refine Zo rfl (fun hb2 => ?_) (fun hb2 => ?_)
  ·
   refine Zd (Za (ya rfl rfl (ya rfl rfl (Zf (ρ' := [(4, _), (5, _)]) ⟨rfl, rfl, trivial⟩ ?_))))
   refine Zc (Zw (Zj ?_))
   refine fin2 (.tmp rfl) (.tmp rfl) ?_
   first | exact ⟨_, _, rfl, hC1, hC2, hN1, hN2⟩ | (have h := of_decide_eq_true hg1_2; omega) | (have h := of_decide_eq_true hb2; omega)
  ·
   refine Zr (Zc (Zd (Za (ym rfl rfl (ym rfl rfl (Zv rfl rfl ?_))))))
   refine Zaa (caps := []) trivial rfl rfl Tryz.c115 rfl (FnP.mono (kat_fn s i hlt hs u) ?_)
   rintro v u1 hle1 ⟨C, N, rfl, hC1, hC2, hN1, hN2⟩
   refine Zv rfl rfl ?_
   refine Zas trivial Tryz.z135 rfl rfl rfl ?_
   refine Zv rfl rfl ?_
   refine Zm trivial rfl Tryz.k135 rfl rfl rfl (vs := [_, _]) rfl rfl (by first | rfl | assumption | simp [Value.oneCell', str]) (Nat.le_of_ble_eq_true rfl) rfl ?_
   refine Zf (ρ' := [(6, _)]) ⟨rfl, trivial⟩ ?_
   refine Zc (Zd ?_)
   refine Zbk Tryz.mixed rfl [(6, _)] ⟨rfl, trivial⟩ ?_
   refine Zal 0 rfl (by kernel_rfl) (Zb (Zan)) (Zh rfl Tryz.f135' rfl (by decide) rfl) rfl ?_
   refine Zal 1 rfl (by kernel_rfl) (Zb (Zan)) (Zi rfl Tryz.k3 rfl rfl rfl (vs := [_]) rfl rfl rfl) rfl ?_
   refine Zal 2 rfl (by kernel_rfl) (Zb (Zan)) (Zh rfl Tryz.f135' rfl (by decide) rfl) rfl ?_
   refine Zal 3 rfl (by kernel_rfl) (Zb (Zan)) (Zi rfl Tryz.k3 rfl rfl rfl (vs := [_]) rfl rfl rfl) rfl ?_
   refine Zal 4 rfl (by kernel_rfl) (Zb (Zan)) (Zcf rfl rfl) rfl (Zal 5 rfl (by kernel_rfl) (Zb (Zan)) (Zcf rfl rfl) rfl ?_)
   refine Zbl (by kernel_rfl) (ρ' := [(4, _), (5, _)]) ⟨rfl, rfl, trivial⟩ ?_
   refine Zc (Zw ?_)
   refine fin2 (.tmp rfl) (.tmp rfl) ?_
   first | exact ⟨_, _, rfl, hC1, hC2, hN1, hN2⟩ | (have h := of_decide_eq_true hg1_2; omega) | (have h := of_decide_eq_true hb2; omega)
end Go.Proofs.Ythkgcakpjknlbaa
