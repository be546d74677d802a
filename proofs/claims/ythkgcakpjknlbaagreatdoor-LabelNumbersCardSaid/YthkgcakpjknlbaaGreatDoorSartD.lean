/- Texts for a law, part 4: they walk the functions that the law reaches, and state what holds of them; without conditions beyond each theorem's own. -/
import Derived.Test.YthkgcakpjknlbaaGreatDoorSartC
import Derived.Shelf.Strings.Builder1
import Derived.Shelf.Strings.Builder2
import Derived.Shelf.Strings.OnBuilder
import Derived.Shelf.Strconv.Itoa0
import Derived.Shelf.Strconv.Itoa1
import Derived.Shelf.LaysM
import Derived.Shelf.Strconv.Itoa2
import Derived.Shelf.Strconv.Itoa3
import Derived.Ground.Names2Prog
import Derived.Shelf.Slices.Clone
import Derived.Ground.SlgnProg
import Derived.Shelf.SlicesE.Clone
import Derived.Test.YthkgcakpjknlbaaGreatDoorProg
import Derived.Below
import Derived.Deep.Draws
import Derived.Sort.Grow
import Derived.Lib.Join
namespace Go.Proofs.Ythkgcakpjknlbaa
open Go Go.Eng
set_option linter.unusedSimpArgs false
set_option linter.unusedVariables false
set_option maxRecDepth 4000
abbrev bldL (b : Nat) (q : Option Addr) (ad : Option Addr) (cap : Nat) (l : Bs) : List PO := [(some b, .bt 143 [.pointer q, .slice ad l.length cap]), (none, .rwv (.slice ad l.length cap) 5 1 l.length (bytesC l))]
abbrev selfQ (b : Nat) : Option Addr := some ⟨b, 0, none⟩
def QOk (b : Nat) (q : Option Addr) : Prop := q = none ∨ q = selfQ b
theorem copyCheck0_fn (b : Nat) (v : Value) (hv : Value.oneCell' v = true) (u : View) :
  FnO Tryz.prog 128 [.pointer (some ⟨b, 0, none⟩)] u [(some b, .bt 143 [.pointer none, v])] fun r u' l' => r = .tuple #[] ∧ l' = [(some b, .bt 143 [.pointer (selfQ b), v])] := by
 refine FnO.intro [] Tryz.func128 rfl rfl rfl ?_
 intro w0 D hw0
 refine Zco 0 1000 _ 0 rfl rfl ?_
 refine Zd (Za (ym rfl rfl (Zg (Zbp rfl rfl) rfl (Zg (Zh rfl Tryz.f143' rfl (by decide) rfl) rfl (Zg (y_load_t rfl Tryz.k140 rfl rfl rfl (vs := [_]) rfl rfl rfl) rfl (Zg (y_ptr_eql_nil (e := 143) rfl (by kernel_rfl) rfl rfl) rfl (Zf (ρ' := [(0, _), (6, _)]) ⟨rfl, rfl, trivial⟩ ?_)))))))
 refine Zc (Zcr rfl (rfl) (Za (ym rfl rfl (ym rfl rfl (Zg (y_to_unsafe (t := 143) rfl (by kernel_rfl) (by kernel_rfl) Tryz.k143 rfl rfl rfl rfl rfl) rfl (Zg (y_noEscape rfl ⟨_, Tryz.func151, by kernel_rfl, by kernel_rfl, by kernel_rfl, by kernel_rfl⟩ rfl) rfl (Zg (y_from_unsafe (t := 143) rfl (by kernel_rfl) (by kernel_rfl) Tryz.k143 rfl rfl rfl (by kernel_rfl)) rfl ?_)))))))
 refine Zg (Zbp rfl rfl) rfl (Zg (Zh rfl Tryz.f143' rfl (by decide) rfl) rfl (Zv rfl rfl ?_))
 refine do_store_t trivial rfl Tryz.k140 rfl rfl rfl (vs := [_]) rfl rfl rfl (Nat.le_of_ble_eq_true rfl) rfl ?_
 refine Zf (ρ' := []) trivial ?_
 refine finO0n [1000]  rfl rfl ?_
 exact ⟨rfl, rfl⟩
theorem copyCheck1_fn (b : Nat) (v : Value) (u : View) :
  FnO Tryz.prog 128 [.pointer (some ⟨b, 0, none⟩)] u [(some b, .bt 143 [.pointer (selfQ b), v])] fun r u' l' => r = .tuple #[] ∧ l' = [(some b, .bt 143 [.pointer (selfQ b), v])] := by
 refine FnO.intro [] Tryz.func128 rfl rfl rfl ?_
 intro w0 D hw0
 refine Zco 0 1000 _ 0 rfl rfl ?_
 refine Zd (Za (ym rfl rfl (Zg (Zbp rfl rfl) rfl (Zg (Zh rfl Tryz.f143' rfl (by decide) rfl) rfl (Zg (y_load_t rfl Tryz.k140 rfl rfl rfl (vs := [_]) rfl rfl rfl) rfl (Zg (y_ptr_eql_nil (e := 143) rfl (by kernel_rfl) rfl rfl) rfl (Zf (ρ' := [(0, _), (6, _)]) ⟨rfl, rfl, trivial⟩ ?_)))))))
 refine Zc (Zce rfl (rfl) (Zd (Za (ym rfl rfl (Zg (Zbp rfl rfl) rfl (Zg (Zh rfl Tryz.f143' rfl (by decide) rfl) rfl (Zg (y_load_t rfl Tryz.k140 rfl rfl rfl (vs := [_]) rfl rfl rfl) rfl ?_)))))))
 refine ym rfl rfl (Zg (y_ptr_neq_self (e := 143) rfl (by kernel_rfl) Tryz.k143 rfl rfl) rfl (Zf (ρ' := [(19, _)]) ⟨rfl, trivial⟩ ?_))
 refine Zc (Zce rfl (rfl) (Zr ?_))
 refine finO0n [1000]  rfl rfl ?_
 exact ⟨rfl, rfl⟩
theorem copyCheck_fn (b : Nat) (q : Option Addr) (hq : QOk b q) (v : Value) (hv : Value.oneCell' v = true) (u : View) :
  FnO Tryz.prog 128 [.pointer (some ⟨b, 0, none⟩)] u [(some b, .bt 143 [.pointer q, v])] fun r u' l' => r = .tuple #[] ∧ l' = [(some b, .bt 143 [.pointer (selfQ b), v])] := by
 rcases hq with rfl | rfl
 ·
  exact copyCheck0_fn b v hv u
 ·
  exact copyCheck1_fn b v u
theorem writeString_fn (b : Nat) (q : Option Addr) (hq : QOk b q) (ad : Option Addr) (cap : Nat) (l s : Bs) (hl : l.length + s.length ≤ 1000000000) (u : View) :
  FnO Tryz.prog 102 [.pointer (some ⟨b, 0, none⟩), str s] u (bldL b q ad cap l) fun r u' l' => r = .tuple #[.int .i64 s.length, .nilIface] ∧ ∃ ad' cap', l' = bldL b (selfQ b) ad' cap' (l ++ s) := by
 refine FnO.intro [.tmp 4, .tmp 5] Tryz.func102 rfl rfl rfl ?_
 intro w0 D hw0
 refine Zco 0 1000 _ 0 rfl rfl ?_
 refine Zd (Za (ya rfl rfl (ya rfl rfl (Zf (ρ' := [(0, _), (1, _)]) ⟨rfl, rfl, trivial⟩ ?_))))
 refine Zc (Zd (Za (ym rfl rfl (Zv rfl rfl ?_))))
 refine Zaj (caps := []) (ρ' := [(0, _), (1, _)]) [1000] [] trivial rfl rfl rfl Tryz.c128 rfl rfl ⟨rfl, rfl, trivial⟩ rfl rfl rfl (FnO.mono (copyCheck_fn b q hq (.slice ad l.length cap) rfl u) ?_)
 rintro v u1 l1 hle1 ⟨rfl, rfl⟩ -
 refine ⟨⟨fun _ h => h, trivial⟩, ?_⟩
 refine Zf (ρ' := [(0, _), (1, _)]) ⟨rfl, rfl, trivial⟩ ?_
 refine Zc (Zd (Za (ym rfl rfl (ym rfl rfl (Zg (Zbp rfl rfl) rfl (Zg (Zh rfl Tryz.f143' rfl (by decide) rfl) rfl (Zg (y_load_t rfl Tryz.k141 rfl rfl rfl (vs := [_]) rfl rfl rfl) rfl ?_)))))))
 refine ym rfl rfl (Zv rfl rfl ?_)
 refine do_append_str 1001 trivial rfl rfl Tryz.s141 (by kernel_rfl) rfl (by kernel_rfl) rfl rfl rfl rfl rfl (by omega) ?_
 intro ad' cap'
 refine Zg (Zbp rfl rfl) rfl (Zg (Zh rfl Tryz.f143' rfl (by decide) rfl) rfl (Zv rfl rfl ?_))
 refine do_store_t trivial rfl Tryz.k141 rfl rfl rfl (vs := [_]) rfl rfl rfl (Nat.le_of_ble_eq_true rfl) rfl ?_
 refine Zf (ρ' := [(1, _)]) ⟨rfl, trivial⟩ ?_
 refine Zc (Zd (Za (ym rfl rfl (Zg (Zao rfl rfl Tryz.str9 rfl) rfl (ya rfl rfl (ya rfl rfl (Zf (ρ' := [(4, _), (5, _)]) ⟨rfl, rfl, trivial⟩ ?_)))))))
 refine Zc (Zw ?_)
 refine finO2 [1000, 1001] (.tmp rfl) (.tmp rfl) rfl rfl ?_
 exact ⟨rfl, ad', cap', by simp [bldL, bytesC_append]; rfl⟩
theorem writeByte_fn (b : Nat) (q : Option Addr) (hq : QOk b q) (ad : Option Addr) (cap : Nat) (l : Bs) (c : UInt8) (hl : l.length + 1 ≤ 1000000000) (u : View) :
  FnO Tryz.prog 131 [.pointer (some ⟨b, 0, none⟩), .int .u8 c.toNat] u (bldL b q ad cap l) fun r u' l' => r = .nilIface ∧ ∃ ad' cap', l' = bldL b (selfQ b) ad' cap' (l ++ [c]) := by
 refine FnO.intro [.tmp 4] Tryz.func131 rfl rfl rfl ?_
 intro w0 D hw0
 refine Zco 0 1000 _ 0 rfl rfl ?_
 refine Zd (Za (ya rfl rfl (Zf (ρ' := [(0, _), (1, _)]) ⟨rfl, rfl, trivial⟩ ?_)))
 refine Zc (Zd (Za (ym rfl rfl (Zv rfl rfl ?_))))
 refine Zaj (caps := []) (ρ' := [(0, _), (1, _)]) [1000] [] trivial rfl rfl rfl Tryz.c128 rfl rfl ⟨rfl, rfl, trivial⟩ rfl rfl rfl (FnO.mono (copyCheck_fn b q hq (.slice ad l.length cap) rfl u) ?_)
 rintro v u1 l1 hle1 ⟨rfl, rfl⟩ -
 refine ⟨⟨fun _ h => h, trivial⟩, ?_⟩
 refine Zf (ρ' := [(0, _), (1, _)]) ⟨rfl, rfl, trivial⟩ ?_
 refine Zc (Zd (Za (ym rfl rfl (ym rfl rfl (Zg (Zbp rfl rfl) rfl (Zg (Zh rfl Tryz.f143' rfl (by decide) rfl) rfl (Zg (y_load_t rfl Tryz.k141 rfl rfl rfl (vs := [_]) rfl rfl rfl) rfl ?_)))))))
 refine ym rfl rfl (Zv rfl rfl ?_)
 refine Zak trivial Tryz.s141 Tryz.z5 (ps := [(_, _)]) rfl (xs := [_]) rfl rfl rfl rfl rfl rfl rfl ?_
 refine Zv rfl rfl ?_
 refine Zca 1001 trivial rfl rfl Tryz.s141 Tryz.z5 rfl rfl rfl rfl rfl rfl rfl (by omega) (by omega) rfl rfl ?_
 intro ad' cap'
 refine Zg (Zbp rfl rfl) rfl (Zg (Zh rfl Tryz.f143' rfl (by decide) rfl) rfl (Zv rfl rfl ?_))
 refine do_store_t trivial rfl Tryz.k141 rfl rfl rfl (vs := [_]) rfl rfl rfl (Nat.le_of_ble_eq_true rfl) rfl ?_
 refine Zf (ρ' := []) trivial ?_
 refine Zc (Zd (Za (ya rfl rfl (Zf (ρ' := [(4, _)]) ⟨rfl, trivial⟩ ?_))))
 refine Zc (Zw ?_)
 refine finO1 [1000, 1001] (.tmp rfl) rfl rfl ?_
 exact ⟨rfl, ad', cap', by simp [bldL, bytesC_append]; exact ⟨rfl, rfl⟩⟩
theorem bldString_fn (b : Nat) (q : Option Addr) (ad : Option Addr) (cap : Nat) (l : Bs) (hl : l.length ≤ 1000000000) (u : View) :
  FnO Tryz.prog 103 [.pointer (some ⟨b, 0, none⟩)] u (bldL b q ad cap l) fun r u' l' => r = str l ∧ ∃ o2, l' = [(some b, .bt 143 [.pointer q, .slice ad l.length cap]), (none, o2)] := by
 refine FnO.intro [.tmp 2] Tryz.func103 rfl rfl rfl ?_
 intro w0 D hw0
 refine Zco 0 1000 _ 0 rfl rfl ?_
 refine Zd (Za (ya rfl rfl (Zf (ρ' := [(0, _)]) ⟨rfl, trivial⟩ ?_)))
 refine Zc (Zd ?_)
 refine Zbk Tryz.mixed rfl [(1000, _)] ⟨rfl, trivial⟩ ?_
 refine Zal 0 rfl (by kernel_rfl) (Zb (Zp)) (Zap rfl rfl) rfl ?_
 refine Zal 1 rfl (by kernel_rfl) (Zb (Zp)) (Zbp rfl rfl) rfl ?_
 refine Zal 2 rfl (by kernel_rfl) (Zb (Zp)) (Zh rfl Tryz.f143' rfl (by decide) rfl) rfl ?_
 refine Zal 3 rfl (by kernel_rfl) (Zb (Zp)) (y_load_t rfl Tryz.k141 rfl rfl rfl (vs := [_]) rfl rfl rfl) rfl ?_
 refine Zal 5 rfl (by kernel_rfl) (Zb (Zp)) (Zap rfl rfl) rfl ?_
 refine Zal 6 rfl (by kernel_rfl) (Zb (Zp)) (Zbp rfl rfl) rfl ?_
 refine Zal 7 rfl (by kernel_rfl) (Zb (Zp)) (Zh rfl Tryz.f143' rfl (by decide) rfl) rfl ?_
 refine Zal 8 rfl (by kernel_rfl) (Zb (Zp)) (y_load_t rfl Tryz.k141 rfl rfl rfl (vs := [_]) rfl rfl rfl) rfl ?_
 refine Zal 9 rfl (by kernel_rfl) (Zb (Zp)) (Zaq rfl rfl Tryz.s141 rfl) rfl ?_
 refine Zar (i := 4) rfl rfl (by kernel_rfl) ?_
 refine do_sliceData (e := 5) 1001 ⟨rfl, trivial⟩ (by kernel_rfl) rfl rfl rfl ?_
 intro p7 hp7
 refine Zar (i := 10) rfl rfl (by kernel_rfl) ?_
 refine do_unsafeString 1001 ⟨rfl, trivial⟩ rfl rfl (by kernel_rfl) (by kernel_rfl) rfl rfl rfl rfl hp7 rfl (by omega) rfl ?_
 refine Zal 11 rfl (by kernel_rfl) (Zb (Zp)) (Zcf rfl rfl) rfl ?_
 refine Zbl (by kernel_rfl) (ρ' := [(2, _)]) ⟨rfl, trivial⟩ ?_
 refine Zc (Zw ?_)
 refine finO1 [1000, 1001] (.tmp rfl) rfl rfl ?_
 exact ⟨rfl, _, rfl⟩
theorem txI_kids {B : Nat} {xs : List Inl} {i : Nat} {k : Int} {t d ti : Bs} {a : DAttr} {args : List Bs} {cites : List DCite} {kids : List Inl} (h : txI B xs) (hg : xs[i]? = some (.mk k t d ti a args cites kids)) : t.length ≤ B ∧ d.length ≤ B ∧ ti.length ≤ B ∧ txI B kids := by
 have := txI_get h hg
 unfold txI1 at this
 exact this
theorem plain_take_len (B : Nat) (hB : 1 ≤ B) {xs : List Inl} (h : txI B xs) (i : Nat) : (plain (xs.take i)).length ≤ B * szI xs := by
 have h1 : (plain xs).length = (plain (xs.take i)).length + (plain (xs.drop i)).length := by
  rw [← List.length_append, ← plain_append, List.take_append_drop]
 have := plain_len B hB xs h
 omega
theorem plain1_eq (k : Int) (t d ti : Bs) (a : DAttr) (args : List Bs) (cites : List DCite) (kids : List Inl) : plain1 (.mk k t d ti a args cites kids) = (if k = 1 ∨ k = 4 ∨ k = 5 then t else if k = 2 ∨ k = 3 then [32] else if 6 ≤ k ∧ k ≤ 11 then plain kids else if k = 16 then d else []) := by rw [plain1]
set_option maxHeartbeats 4000000 in
theorem writePlain_fn (b : Nat) (n : Nat) : ∀ (v : Value) (xs : List Inl) (q : Option Addr) (ad : Option Addr) (cap : Nat) (l : Bs) (u : View), szI xs ≤ n → szI xs ≤ 1000 → txI 100000 xs → QOk b q → l.length + 100000 * szI xs ≤ 1000000000 → InlS u v xs →
  FnO Tryz.prog 111 [.pointer (some ⟨b, 0, none⟩), v] u (bldL b q ad cap l) fun r u' l' => r = .tuple #[] ∧ ∃ q' ad' cap', QOk b q' ∧ l' = bldL b q' ad' cap' (l ++ plain xs) := by
 induction n using Nat.strongRecOn with
 | _ n ih =>
 intro v xs q ad cap l u hsz hbig htx hq hln ha
 have hlx := len_szI xs
 obtain ⟨cs, ⟨ax, cx, rfl, h1⟩, hc1⟩ := ha
 refine FnO.intro [] Tryz.func111 rfl rfl rfl ?_
 intro w0 D hw0
 refine Zco 0 1000 _ 0 rfl rfl ?_
 refine Zd (Za (ym rfl rfl (Zg (Zaq rfl rfl Tryz.s35 rfl) rfl (ym rfl rfl (Zf (ρ' := [(0, _), (1, _), (7, _), (8, _)]) ⟨rfl, rfl, rfl, rfl, trivial⟩ ?_)))))
 refine Zc (Zad ?_)
 refine Zbc (fun m ρ σ u' => ∃ i : Nat, i + m = xs.length ∧ VLe u u' ∧ ∃ (qi : Option Addr) (ai : Option Addr) (ci : Nat), σ = [(1000, (some b, .bt 143 [.pointer qi, .slice ai (l ++ plain (xs.take i)).length ci])), (1001, (none, .rwv (.slice ai (l ++ plain (xs.take i)).length ci) 5 1 (l ++ plain (xs.take i)).length (bytesC (l ++ plain (xs.take i)))))] ∧ ρ = [(0, .p 1000 0), (1, .v (.slice ax xs.length cx)), (7, .v (.int .i64 xs.length)), (8, .v (.int .i64 i))] ∧ (QOk b qi)) (xs.length) ?_ ?_
 ·
  refine ⟨[(0, _), (1, _), (7, _), (8, _)], [(1000, _), (1001, _)], ⟨rfl, rfl, rfl, rfl, trivial⟩, ⟨rfl, rfl, trivial⟩, 0, by omega, VLe.refl _, q, ad, cap, (by simp [plain]; try rfl), rfl, ?_⟩
  exact hq
 ·
  rintro m ρ σ u' ⟨i, hi1, hle1, qi, ai, ci, rfl, rfl, hqi⟩
  refine Zd (Za (Zg (Zbn rfl rfl rfl) rfl (Zf (ρ' := [(0, _), (1, _), (7, _), (8, _), (9, _)]) ⟨rfl, rfl, rfl, rfl, rfl, trivial⟩ ?_)))
  refine Zc (Zd ?_)
  refine Zo rfl (fun hb1 => ?_) (fun hb1 => ?_)
  ·
   have hlt : i < xs.length := (by have := of_decide_eq_true hb1; omega)
   refine Zr (Zc ?_)
   refine Zbu (fun ρ σ uc21 => ∃ (q2 : Option Addr) (a2 : Option Addr) (c2 : Nat) (L2 : Bs), VLe u' uc21 ∧ σ = [(1000, (some b, .bt 143 [.pointer q2, .slice a2 L2.length c2])), (1001, (none, .rwv (.slice a2 L2.length c2) 5 1 L2.length (bytesC L2)))] ∧ ρ = [(0, .p 1000 0), (1, .v (.slice ax xs.length cx)), (7, .v (.int .i64 xs.length)), (8, .v (.int .i64 i))] ∧ (QOk b q2 ∧ L2 = l ++ plain (xs.take (i + 1)))) ?_ ?_
   ·
    refine Zad (Zd ?_)
    have h1 := h1.mono hle1
    have hc1 := hc1.mono hle1
    obtain ⟨k, t, d, ti, a, args, cites, kids, vc, vp, va, vt, vk, hg, hcut1, s1, s2, s3, s4, s5, hok⟩ := hc1.at hlt
    have oneAll := (hc1.get i _ hg).one
    rw [hcut1] at oneAll
    have hszk := szI_kids hg
    have hst := szI_take hg
    have hs1 := szI_take_le xs i
    have hs2 := szI_take_le xs (i + 1)
    have hpl := plain_len 100000 (by omega) _ (show txI 100000 (xs.take i) from by
     have : ∀ (ys : List Inl) (j : Nat), txI 100000 ys → txI 100000 (ys.take j) := by
      intro ys
      induction ys with
      | nil => intro j h; simpa using h
      | cons y ys ihy =>
       intro j h
       cases j with
       | zero => simp [txI]
       | succ j =>
        unfold txI at h
        rw [List.take_succ_cons]
        unfold txI
        exact ⟨h.1, ihy j h.2⟩
     exact this xs i htx)
    obtain ⟨tx1, tx2, tx3, tx4⟩ := txI_kids htx hg
    have hpt := plain_take hg
    rw [plain1_eq] at hpt
    simp only [sz1] at hst
    have hll : (l ++ plain (xs.take i)).length + 100000 * (1 + szI kids) ≤ 1000000000 := by rw [List.length_append]; omega
    have hpt' : l ++ plain (xs.take (i + 1)) = (l ++ plain (xs.take i)) ++ (if k = 1 ∨ k = 4 ∨ k = 5 then t else if k = 2 ∨ k = 3 then [32] else if 6 ≤ k ∧ k ≤ 11 then plain kids else if k = 16 then d else []) := by rw [hpt, List.append_assoc]
    generalize l ++ plain (xs.take i) = L at hll hpt' ⊢
    refine Za (ym rfl rfl (ya rfl rfl (Zf (ρ' := [(0, _), (1, _), (4, _), (7, _), (8, _)]) ⟨rfl, rfl, rfl, rfl, rfl, trivial⟩ ?_)))
    refine Zc (Zd (Za (ym rfl rfl (ym rfl rfl (Zg (Zai rfl Tryz.s35 rfl rfl (by assumption) (by first | rfl | omega) (by omega)) rfl (ya rfl rfl (Zf (ρ' := [(0, _), (1, _), (5, _), (7, _), (8, _)]) ⟨rfl, rfl, rfl, rfl, rfl, trivial⟩ ?_)))))))
    refine Zc (Zd (Za (ym rfl rfl (Zg (y_nilCheck_e rfl rfl) rfl (Zg (Zau rfl Tryz.f42' rfl (by decide) rfl) rfl (Zg (Zag rfl Tryz.k3 rfl (by assumption) (by omega) (by assumption) (vs := [_]) rfl rfl rfl rfl) rfl (Zf (ρ' := [(0, _), (1, _), (5, _), (7, _), (8, _), (17, _)]) ⟨rfl, rfl, rfl, rfl, rfl, rfl, trivial⟩ ?_)))))))
    refine Zc (Zad ?_)
    refine Zbu (fun ρ σ uci8 => VLe u' uci8 ∧ σ = [(1000, (some b, .bt 143 [.pointer qi, .slice ai L.length ci])), (1001, (none, .rwv (.slice ai L.length ci) 5 1 L.length (bytesC L)))] ∧ ρ = [(0, .p 1000 0), (1, .v (.slice ax xs.length cx)), (5, .e (.slice ax xs.length cx) 10 i 0), (7, .v (.int .i64 xs.length)), (8, .v (.int .i64 i)), (17, .v (.int .i64 k)), (18, .v (.bool (decide (k = 1 ∨ k = 4 ∨ k = 5))))] ∧ (u' = uci8)) ?_ ?_
    ·
     refine Zd (Za (Zg (Zaw rfl rfl rfl) rfl (ya rfl rfl (Zf (ρ' := [(0, _), (1, _), (5, _), (7, _), (8, _), (17, _), (18, _)]) ⟨rfl, rfl, rfl, rfl, rfl, rfl, rfl, trivial⟩ ?_))))
     refine Zc ?_
     refine Zo rfl (fun hb5 => ?_) (fun hb5 => ?_)
     ·
      refine Zr (Zab ?_)
      refine ⟨[(0, _), (1, _), (5, _), (7, _), (8, _), (17, _), (18, _)], [(1000, _), (1001, _)], ⟨rfl, rfl, rfl, rfl, rfl, rfl, rfl, trivial⟩, ⟨rfl, rfl, trivial⟩, (VLe.refl _), rfl, (by first | rfl | (simp only [List.cons.injEq, Prod.mk.injEq, SV.v.injEq, Value.bool.injEq, eq_self, true_and, and_true]; exact decide_eq_decide.2 (by simp only [decide_eq_true_eq, decide_eq_false_iff_not] at *; omega))), ?_⟩
      rfl
     ·
      refine Zd (Za (Zg (Zaw rfl rfl rfl) rfl (ya rfl rfl (Zf (ρ' := [(0, _), (1, _), (5, _), (7, _), (8, _), (17, _), (18, _)]) ⟨rfl, rfl, rfl, rfl, rfl, rfl, rfl, trivial⟩ ?_))))
      refine Zc ?_
      refine Zo rfl (fun hb6 => ?_) (fun hb6 => ?_)
      ·
       refine Zr (Zab ?_)
       refine ⟨[(0, _), (1, _), (5, _), (7, _), (8, _), (17, _), (18, _)], [(1000, _), (1001, _)], ⟨rfl, rfl, rfl, rfl, rfl, rfl, rfl, trivial⟩, ⟨rfl, rfl, trivial⟩, (VLe.refl _), rfl, (by first | rfl | (simp only [List.cons.injEq, Prod.mk.injEq, SV.v.injEq, Value.bool.injEq, eq_self, true_and, and_true]; exact decide_eq_decide.2 (by simp only [decide_eq_true_eq, decide_eq_false_iff_not] at *; omega))), ?_⟩
       rfl
      ·
       refine Za (Zg (Zaw rfl rfl rfl) rfl (ya rfl rfl (Zf (ρ' := [(0, _), (1, _), (5, _), (7, _), (8, _), (17, _), (18, _)]) ⟨rfl, rfl, rfl, rfl, rfl, rfl, rfl, trivial⟩ ?_)))
       refine Zab ?_
       refine ⟨[(0, _), (1, _), (5, _), (7, _), (8, _), (17, _), (18, _)], [(1000, _), (1001, _)], ⟨rfl, rfl, rfl, rfl, rfl, rfl, rfl, trivial⟩, ⟨rfl, rfl, trivial⟩, (VLe.refl _), rfl, (by first | rfl | (simp only [List.cons.injEq, Prod.mk.injEq, SV.v.injEq, Value.bool.injEq, eq_self, true_and, and_true]; exact decide_eq_decide.2 (by simp only [decide_eq_true_eq, decide_eq_false_iff_not] at *; omega))), ?_⟩
       rfl
    ·
     rintro ρ σ uci8 ⟨hlci8, rfl, rfl, rfl⟩
     refine Zo rfl (fun hb7 => ?_) (fun hb7 => ?_)
     ·
      refine Za (ym rfl rfl (ym rfl rfl (Zg (y_nilCheck_e rfl rfl) rfl (Zg (Zau rfl Tryz.f42' rfl (by decide) rfl) rfl (Zg (Zag rfl Tryz.k9 rfl (by assumption) (by omega) (by assumption) (vs := [_]) rfl rfl rfl rfl) rfl (Zv rfl rfl ?_))))))
      refine Zaj (caps := []) (ρ' := [(0, _), (1, _), (7, _), (8, _)]) [1000, 1001] [] trivial rfl rfl rfl Tryz.c102 rfl rfl ⟨rfl, rfl, rfl, rfl, trivial⟩ rfl rfl rfl (FnO.mono (writeString_fn b qi hqi ai ci L t (by omega) _) ?_)
      rintro v uS l1 hleS ⟨rfl, aS, cS, rfl⟩ -
      refine ⟨⟨fun _ h => h, fun _ h => h, trivial⟩, ?_⟩
      refine Zf (ρ' := [(0, _), (1, _), (7, _), (8, _)]) ⟨rfl, rfl, rfl, rfl, trivial⟩ ?_
      refine Zah (Zah (Zab ?_))
      first
       | (refine ⟨[(0, _), (1, _), (7, _), (8, _)], [(1000, _), (1001, _)], ⟨rfl, rfl, rfl, rfl, trivial⟩, ⟨rfl, rfl, trivial⟩, selfQ b, aS, cS, L ++ t, hleS, (by first | rfl | simp), (by first | rfl | (simp only [List.cons.injEq, Prod.mk.injEq, SV.v.injEq, Value.int.injEq, true_and, and_true]; omega) | simp), ?_⟩
          (refine ⟨.inr rfl, ?_⟩; simp only [decide_eq_true_eq, decide_eq_false_iff_not] at *; rw [hpt', if_pos (by omega)]))
       | (refine ⟨[(0, _), (1, _), (7, _), (8, _)], [(1000, _), (1001, _)], ⟨rfl, rfl, rfl, rfl, trivial⟩, ⟨rfl, rfl, trivial⟩, selfQ b, aW, cW, L ++ [32], hleS, (by first | rfl | simp), (by first | rfl | (simp only [List.cons.injEq, Prod.mk.injEq, SV.v.injEq, Value.int.injEq, true_and, and_true]; omega) | simp), ?_⟩
          (refine ⟨.inr rfl, ?_⟩; simp only [decide_eq_true_eq, decide_eq_false_iff_not] at *; rw [hpt', if_neg (by omega), if_pos (by omega)]))
       | (refine ⟨[(0, _), (1, _), (7, _), (8, _)], [(1000, _), (1001, _)], ⟨rfl, rfl, rfl, rfl, trivial⟩, ⟨rfl, rfl, trivial⟩, qR, aR, cR, L ++ plain kids, hleS, (by first | rfl | simp), (by first | rfl | (simp only [List.cons.injEq, Prod.mk.injEq, SV.v.injEq, Value.int.injEq, true_and, and_true]; omega) | simp), ?_⟩
          (refine ⟨hqR, ?_⟩; simp only [decide_eq_true_eq, decide_eq_false_iff_not] at *; rw [hpt', if_neg (by omega), if_neg (by omega), if_pos (by omega)]))
       | (refine ⟨[(0, _), (1, _), (7, _), (8, _)], [(1000, _), (1001, _)], ⟨rfl, rfl, rfl, rfl, trivial⟩, ⟨rfl, rfl, trivial⟩, selfQ b, aT, cT, L ++ d, hleS, (by first | rfl | simp), (by first | rfl | (simp only [List.cons.injEq, Prod.mk.injEq, SV.v.injEq, Value.int.injEq, true_and, and_true]; omega) | simp), ?_⟩
          (refine ⟨.inr rfl, ?_⟩; simp only [decide_eq_true_eq, decide_eq_false_iff_not] at *; rw [hpt', if_neg (by omega), if_neg (by omega), if_neg (by omega), if_pos (by omega)]))
       | (refine ⟨[(0, _), (1, _), (7, _), (8, _)], [(1000, _), (1001, _)], ⟨rfl, rfl, rfl, rfl, trivial⟩, ⟨rfl, rfl, trivial⟩, qi, ai, ci, L, (VLe.refl _), (by first | rfl | simp), (by first | rfl | (simp only [List.cons.injEq, Prod.mk.injEq, SV.v.injEq, Value.int.injEq, true_and, and_true]; omega) | simp), ?_⟩
          (refine ⟨hqi, ?_⟩; simp only [decide_eq_true_eq, decide_eq_false_iff_not] at *; rw [hpt', if_neg (by omega), if_neg (by omega), if_neg (by omega), if_neg (by omega), List.append_nil]))
     ·
      refine Zbu (fun ρ σ uci11 => VLe u' uci11 ∧ σ = [(1000, (some b, .bt 143 [.pointer qi, .slice ai L.length ci])), (1001, (none, .rwv (.slice ai L.length ci) 5 1 L.length (bytesC L)))] ∧ ρ = [(0, .p 1000 0), (1, .v (.slice ax xs.length cx)), (5, .e (.slice ax xs.length cx) 10 i 0), (7, .v (.int .i64 xs.length)), (8, .v (.int .i64 i)), (17, .v (.int .i64 k)), (28, .v (.bool (decide (k = 2 ∨ k = 3))))] ∧ (u' = uci11)) ?_ ?_
      ·
       refine Zd (Za (Zg (Zaw rfl rfl rfl) rfl (ya rfl rfl (Zf (ρ' := [(0, _), (1, _), (5, _), (7, _), (8, _), (17, _), (28, _)]) ⟨rfl, rfl, rfl, rfl, rfl, rfl, rfl, trivial⟩ ?_))))
       refine Zc ?_
       refine Zo rfl (fun hb9 => ?_) (fun hb9 => ?_)
       ·
        refine Zr (Zab ?_)
        refine ⟨[(0, _), (1, _), (5, _), (7, _), (8, _), (17, _), (28, _)], [(1000, _), (1001, _)], ⟨rfl, rfl, rfl, rfl, rfl, rfl, rfl, trivial⟩, ⟨rfl, rfl, trivial⟩, (VLe.refl _), rfl, (by first | rfl | (simp only [List.cons.injEq, Prod.mk.injEq, SV.v.injEq, Value.bool.injEq, eq_self, true_and, and_true]; exact decide_eq_decide.2 (by simp only [decide_eq_true_eq, decide_eq_false_iff_not] at *; omega))), ?_⟩
        rfl
       ·
        refine Za (Zg (Zaw rfl rfl rfl) rfl (ya rfl rfl (Zf (ρ' := [(0, _), (1, _), (5, _), (7, _), (8, _), (17, _), (28, _)]) ⟨rfl, rfl, rfl, rfl, rfl, rfl, rfl, trivial⟩ ?_)))
        refine Zab ?_
        refine ⟨[(0, _), (1, _), (5, _), (7, _), (8, _), (17, _), (28, _)], [(1000, _), (1001, _)], ⟨rfl, rfl, rfl, rfl, rfl, rfl, rfl, trivial⟩, ⟨rfl, rfl, trivial⟩, (VLe.refl _), rfl, (by first | rfl | (simp only [List.cons.injEq, Prod.mk.injEq, SV.v.injEq, Value.bool.injEq, eq_self, true_and, and_true]; exact decide_eq_decide.2 (by simp only [decide_eq_true_eq, decide_eq_false_iff_not] at *; omega))), ?_⟩
        rfl
      ·
       rintro ρ σ uci11 ⟨hlci11, rfl, rfl, rfl⟩
       refine Zo rfl (fun hb10 => ?_) (fun hb10 => ?_)
       ·
        refine Za (ym rfl rfl (Zv rfl rfl ?_))
        refine Zaj (caps := []) (ρ' := [(0, _), (1, _), (7, _), (8, _)]) [1000, 1001] [] trivial rfl rfl rfl Tryz.c131 rfl rfl ⟨rfl, rfl, rfl, rfl, trivial⟩ rfl rfl rfl (FnO.mono (writeByte_fn b qi hqi ai ci L 32 (by omega) _) ?_)
        rintro v uS l1 hleS ⟨rfl, aW, cW, rfl⟩ -
        refine ⟨⟨fun _ h => h, fun _ h => h, trivial⟩, ?_⟩
        refine Zf (ρ' := [(0, _), (1, _), (7, _), (8, _)]) ⟨rfl, rfl, rfl, rfl, trivial⟩ ?_
        refine Zah (Zah (Zab ?_))
        first
         | (refine ⟨[(0, _), (1, _), (7, _), (8, _)], [(1000, _), (1001, _)], ⟨rfl, rfl, rfl, rfl, trivial⟩, ⟨rfl, rfl, trivial⟩, selfQ b, aS, cS, L ++ t, hleS, (by first | rfl | simp), (by first | rfl | (simp only [List.cons.injEq, Prod.mk.injEq, SV.v.injEq, Value.int.injEq, true_and, and_true]; omega) | simp), ?_⟩
            (refine ⟨.inr rfl, ?_⟩; simp only [decide_eq_true_eq, decide_eq_false_iff_not] at *; rw [hpt', if_pos (by omega)]))
         | (refine ⟨[(0, _), (1, _), (7, _), (8, _)], [(1000, _), (1001, _)], ⟨rfl, rfl, rfl, rfl, trivial⟩, ⟨rfl, rfl, trivial⟩, selfQ b, aW, cW, L ++ [32], hleS, (by first | rfl | simp), (by first | rfl | (simp only [List.cons.injEq, Prod.mk.injEq, SV.v.injEq, Value.int.injEq, true_and, and_true]; omega) | simp), ?_⟩
            (refine ⟨.inr rfl, ?_⟩; simp only [decide_eq_true_eq, decide_eq_false_iff_not] at *; rw [hpt', if_neg (by omega), if_pos (by omega)]))
         | (refine ⟨[(0, _), (1, _), (7, _), (8, _)], [(1000, _), (1001, _)], ⟨rfl, rfl, rfl, rfl, trivial⟩, ⟨rfl, rfl, trivial⟩, qR, aR, cR, L ++ plain kids, hleS, (by first | rfl | simp), (by first | rfl | (simp only [List.cons.injEq, Prod.mk.injEq, SV.v.injEq, Value.int.injEq, true_and, and_true]; omega) | simp), ?_⟩
            (refine ⟨hqR, ?_⟩; simp only [decide_eq_true_eq, decide_eq_false_iff_not] at *; rw [hpt', if_neg (by omega), if_neg (by omega), if_pos (by omega)]))
         | (refine ⟨[(0, _), (1, _), (7, _), (8, _)], [(1000, _), (1001, _)], ⟨rfl, rfl, rfl, rfl, trivial⟩, ⟨rfl, rfl, trivial⟩, selfQ b, aT, cT, L ++ d, hleS, (by first | rfl | simp), (by first | rfl | (simp only [List.cons.injEq, Prod.mk.injEq, SV.v.injEq, Value.int.injEq, true_and, and_true]; omega) | simp), ?_⟩
            (refine ⟨.inr rfl, ?_⟩; simp only [decide_eq_true_eq, decide_eq_false_iff_not] at *; rw [hpt', if_neg (by omega), if_neg (by omega), if_neg (by omega), if_pos (by omega)]))
         | (refine ⟨[(0, _), (1, _), (7, _), (8, _)], [(1000, _), (1001, _)], ⟨rfl, rfl, rfl, rfl, trivial⟩, ⟨rfl, rfl, trivial⟩, qi, ai, ci, L, (VLe.refl _), (by first | rfl | simp), (by first | rfl | (simp only [List.cons.injEq, Prod.mk.injEq, SV.v.injEq, Value.int.injEq, true_and, and_true]; omega) | simp), ?_⟩
            (refine ⟨hqi, ?_⟩; simp only [decide_eq_true_eq, decide_eq_false_iff_not] at *; rw [hpt', if_neg (by omega), if_neg (by omega), if_neg (by omega), if_neg (by omega), List.append_nil]))
       ·
        refine Zbu (fun ρ σ uci18 => VLe u' uci18 ∧ σ = [(1000, (some b, .bt 143 [.pointer qi, .slice ai L.length ci])), (1001, (none, .rwv (.slice ai L.length ci) 5 1 L.length (bytesC L)))] ∧ ρ = [(0, .p 1000 0), (1, .v (.slice ax xs.length cx)), (5, .e (.slice ax xs.length cx) 10 i 0), (7, .v (.int .i64 xs.length)), (8, .v (.int .i64 i)), (17, .v (.int .i64 k)), (33, .v (.bool (decide (6 ≤ k ∧ k ≤ 11))))] ∧ (u' = uci18)) ?_ ?_
        ·
         refine Zd (Za (Zg (Zaw rfl rfl rfl) rfl (ya rfl rfl (Zf (ρ' := [(0, _), (1, _), (5, _), (7, _), (8, _), (17, _), (33, _)]) ⟨rfl, rfl, rfl, rfl, rfl, rfl, rfl, trivial⟩ ?_))))
         refine Zc ?_
         refine Zo rfl (fun hb12 => ?_) (fun hb12 => ?_)
         ·
          refine Zr (Zab ?_)
          refine ⟨[(0, _), (1, _), (5, _), (7, _), (8, _), (17, _), (33, _)], [(1000, _), (1001, _)], ⟨rfl, rfl, rfl, rfl, rfl, rfl, rfl, trivial⟩, ⟨rfl, rfl, trivial⟩, (VLe.refl _), rfl, (by first | rfl | (simp only [List.cons.injEq, Prod.mk.injEq, SV.v.injEq, Value.bool.injEq, eq_self, true_and, and_true]; exact decide_eq_decide.2 (by simp only [decide_eq_true_eq, decide_eq_false_iff_not] at *; omega))), ?_⟩
          rfl
         ·
          refine Zd (Za (Zg (Zaw rfl rfl rfl) rfl (ya rfl rfl (Zf (ρ' := [(0, _), (1, _), (5, _), (7, _), (8, _), (17, _), (33, _)]) ⟨rfl, rfl, rfl, rfl, rfl, rfl, rfl, trivial⟩ ?_))))
          refine Zc ?_
          refine Zo rfl (fun hb13 => ?_) (fun hb13 => ?_)
          ·
           refine Zr (Zab ?_)
           refine ⟨[(0, _), (1, _), (5, _), (7, _), (8, _), (17, _), (33, _)], [(1000, _), (1001, _)], ⟨rfl, rfl, rfl, rfl, rfl, rfl, rfl, trivial⟩, ⟨rfl, rfl, trivial⟩, (VLe.refl _), rfl, (by first | rfl | (simp only [List.cons.injEq, Prod.mk.injEq, SV.v.injEq, Value.bool.injEq, eq_self, true_and, and_true]; exact decide_eq_decide.2 (by simp only [decide_eq_true_eq, decide_eq_false_iff_not] at *; omega))), ?_⟩
           rfl
          ·
           refine Zd (Za (Zg (Zaw rfl rfl rfl) rfl (ya rfl rfl (Zf (ρ' := [(0, _), (1, _), (5, _), (7, _), (8, _), (17, _), (33, _)]) ⟨rfl, rfl, rfl, rfl, rfl, rfl, rfl, trivial⟩ ?_))))
           refine Zc ?_
           refine Zo rfl (fun hb14 => ?_) (fun hb14 => ?_)
           ·
            refine Zr (Zab ?_)
            refine ⟨[(0, _), (1, _), (5, _), (7, _), (8, _), (17, _), (33, _)], [(1000, _), (1001, _)], ⟨rfl, rfl, rfl, rfl, rfl, rfl, rfl, trivial⟩, ⟨rfl, rfl, trivial⟩, (VLe.refl _), rfl, (by first | rfl | (simp only [List.cons.injEq, Prod.mk.injEq, SV.v.injEq, Value.bool.injEq, eq_self, true_and, and_true]; exact decide_eq_decide.2 (by simp only [decide_eq_true_eq, decide_eq_false_iff_not] at *; omega))), ?_⟩
            rfl
           ·
            refine Zd (Za (Zg (Zaw rfl rfl rfl) rfl (ya rfl rfl (Zf (ρ' := [(0, _), (1, _), (5, _), (7, _), (8, _), (17, _), (33, _)]) ⟨rfl, rfl, rfl, rfl, rfl, rfl, rfl, trivial⟩ ?_))))
            refine Zc ?_
            refine Zo rfl (fun hb15 => ?_) (fun hb15 => ?_)
            ·
             refine Zr (Zab ?_)
             refine ⟨[(0, _), (1, _), (5, _), (7, _), (8, _), (17, _), (33, _)], [(1000, _), (1001, _)], ⟨rfl, rfl, rfl, rfl, rfl, rfl, rfl, trivial⟩, ⟨rfl, rfl, trivial⟩, (VLe.refl _), rfl, (by first | rfl | (simp only [List.cons.injEq, Prod.mk.injEq, SV.v.injEq, Value.bool.injEq, eq_self, true_and, and_true]; exact decide_eq_decide.2 (by simp only [decide_eq_true_eq, decide_eq_false_iff_not] at *; omega))), ?_⟩
             rfl
            ·
             refine Zd (Za (Zg (Zaw rfl rfl rfl) rfl (ya rfl rfl (Zf (ρ' := [(0, _), (1, _), (5, _), (7, _), (8, _), (17, _), (33, _)]) ⟨rfl, rfl, rfl, rfl, rfl, rfl, rfl, trivial⟩ ?_))))
             refine Zc ?_
             refine Zo rfl (fun hb16 => ?_) (fun hb16 => ?_)
             ·
              refine Zr (Zab ?_)
              refine ⟨[(0, _), (1, _), (5, _), (7, _), (8, _), (17, _), (33, _)], [(1000, _), (1001, _)], ⟨rfl, rfl, rfl, rfl, rfl, rfl, rfl, trivial⟩, ⟨rfl, rfl, trivial⟩, (VLe.refl _), rfl, (by first | rfl | (simp only [List.cons.injEq, Prod.mk.injEq, SV.v.injEq, Value.bool.injEq, eq_self, true_and, and_true]; exact decide_eq_decide.2 (by simp only [decide_eq_true_eq, decide_eq_false_iff_not] at *; omega))), ?_⟩
              rfl
             ·
              refine Za (Zg (Zaw rfl rfl rfl) rfl (ya rfl rfl (Zf (ρ' := [(0, _), (1, _), (5, _), (7, _), (8, _), (17, _), (33, _)]) ⟨rfl, rfl, rfl, rfl, rfl, rfl, rfl, trivial⟩ ?_)))
              refine Zab ?_
              refine ⟨[(0, _), (1, _), (5, _), (7, _), (8, _), (17, _), (33, _)], [(1000, _), (1001, _)], ⟨rfl, rfl, rfl, rfl, rfl, rfl, rfl, trivial⟩, ⟨rfl, rfl, trivial⟩, (VLe.refl _), rfl, (by first | rfl | (simp only [List.cons.injEq, Prod.mk.injEq, SV.v.injEq, Value.bool.injEq, eq_self, true_and, and_true]; exact decide_eq_decide.2 (by simp only [decide_eq_true_eq, decide_eq_false_iff_not] at *; omega))), ?_⟩
              rfl
        ·
         rintro ρ σ uci18 ⟨hlci18, rfl, rfl, rfl⟩
         refine Zo rfl (fun hb17 => ?_) (fun hb17 => ?_)
         ·
          refine Za (ym rfl rfl (ym rfl rfl (Zg (y_nilCheck_e rfl rfl) rfl (Zg (Zau rfl Tryz.f42' rfl (by decide) rfl) rfl (Zg (Zag rfl Tryz.k35 rfl (by assumption) (by omega) (by assumption) (vs := [_]) rfl rfl rfl rfl) rfl (Zv rfl rfl ?_))))))
          refine Zaj (caps := []) (ρ' := [(0, _), (1, _), (7, _), (8, _)]) [1000, 1001] [] trivial rfl rfl rfl Tryz.c111 rfl rfl ⟨rfl, rfl, rfl, rfl, trivial⟩ rfl rfl rfl (FnO.mono (ih (szI kids) (by omega) vk kids qi ai ci L _ (Nat.le_refl _) (by omega) tx4 hqi (by omega) s5) ?_)
          rintro v uS l1 hleS ⟨rfl, qR, aR, cR, hqR, rfl⟩ -
          refine ⟨⟨fun _ h => h, fun _ h => h, trivial⟩, ?_⟩
          refine Zf (ρ' := [(0, _), (1, _), (7, _), (8, _)]) ⟨rfl, rfl, rfl, rfl, trivial⟩ ?_
          refine Zah (Zah (Zab ?_))
          first
           | (refine ⟨[(0, _), (1, _), (7, _), (8, _)], [(1000, _), (1001, _)], ⟨rfl, rfl, rfl, rfl, trivial⟩, ⟨rfl, rfl, trivial⟩, selfQ b, aS, cS, L ++ t, hleS, (by first | rfl | simp), (by first | rfl | (simp only [List.cons.injEq, Prod.mk.injEq, SV.v.injEq, Value.int.injEq, true_and, and_true]; omega) | simp), ?_⟩
              (refine ⟨.inr rfl, ?_⟩; simp only [decide_eq_true_eq, decide_eq_false_iff_not] at *; rw [hpt', if_pos (by omega)]))
           | (refine ⟨[(0, _), (1, _), (7, _), (8, _)], [(1000, _), (1001, _)], ⟨rfl, rfl, rfl, rfl, trivial⟩, ⟨rfl, rfl, trivial⟩, selfQ b, aW, cW, L ++ [32], hleS, (by first | rfl | simp), (by first | rfl | (simp only [List.cons.injEq, Prod.mk.injEq, SV.v.injEq, Value.int.injEq, true_and, and_true]; omega) | simp), ?_⟩
              (refine ⟨.inr rfl, ?_⟩; simp only [decide_eq_true_eq, decide_eq_false_iff_not] at *; rw [hpt', if_neg (by omega), if_pos (by omega)]))
           | (refine ⟨[(0, _), (1, _), (7, _), (8, _)], [(1000, _), (1001, _)], ⟨rfl, rfl, rfl, rfl, trivial⟩, ⟨rfl, rfl, trivial⟩, qR, aR, cR, L ++ plain kids, hleS, (by first | rfl | simp), (by first | rfl | (simp only [List.cons.injEq, Prod.mk.injEq, SV.v.injEq, Value.int.injEq, true_and, and_true]; omega) | simp), ?_⟩
              (refine ⟨hqR, ?_⟩; simp only [decide_eq_true_eq, decide_eq_false_iff_not] at *; rw [hpt', if_neg (by omega), if_neg (by omega), if_pos (by omega)]))
           | (refine ⟨[(0, _), (1, _), (7, _), (8, _)], [(1000, _), (1001, _)], ⟨rfl, rfl, rfl, rfl, trivial⟩, ⟨rfl, rfl, trivial⟩, selfQ b, aT, cT, L ++ d, hleS, (by first | rfl | simp), (by first | rfl | (simp only [List.cons.injEq, Prod.mk.injEq, SV.v.injEq, Value.int.injEq, true_and, and_true]; omega) | simp), ?_⟩
              (refine ⟨.inr rfl, ?_⟩; simp only [decide_eq_true_eq, decide_eq_false_iff_not] at *; rw [hpt', if_neg (by omega), if_neg (by omega), if_neg (by omega), if_pos (by omega)]))
           | (refine ⟨[(0, _), (1, _), (7, _), (8, _)], [(1000, _), (1001, _)], ⟨rfl, rfl, rfl, rfl, trivial⟩, ⟨rfl, rfl, trivial⟩, qi, ai, ci, L, (VLe.refl _), (by first | rfl | simp), (by first | rfl | (simp only [List.cons.injEq, Prod.mk.injEq, SV.v.injEq, Value.int.injEq, true_and, and_true]; omega) | simp), ?_⟩
              (refine ⟨hqi, ?_⟩; simp only [decide_eq_true_eq, decide_eq_false_iff_not] at *; rw [hpt', if_neg (by omega), if_neg (by omega), if_neg (by omega), if_neg (by omega), List.append_nil]))
         ·
          refine Zd (Za (Zg (Zaw rfl rfl rfl) rfl (ya rfl rfl (Zf (ρ' := [(0, _), (1, _), (5, _), (7, _), (8, _), (46, _)]) ⟨rfl, rfl, rfl, rfl, rfl, rfl, trivial⟩ ?_))))
          refine Zc ?_
          refine Zo rfl (fun hb19 => ?_) (fun hb19 => ?_)
          ·
           refine Za (ym rfl rfl (ym rfl rfl (Zg (y_nilCheck_e rfl rfl) rfl (Zg (Zau rfl Tryz.f42' rfl (by decide) rfl) rfl (Zg (Zag rfl Tryz.k9 rfl (by assumption) (by omega) (by assumption) (vs := [_]) rfl rfl rfl rfl) rfl (Zv rfl rfl ?_))))))
           refine Zaj (caps := []) (ρ' := [(0, _), (1, _), (7, _), (8, _)]) [1000, 1001] [] trivial rfl rfl rfl Tryz.c102 rfl rfl ⟨rfl, rfl, rfl, rfl, trivial⟩ rfl rfl rfl (FnO.mono (writeString_fn b qi hqi ai ci L d (by omega) _) ?_)
           rintro v uS l1 hleS ⟨rfl, aT, cT, rfl⟩ -
           refine ⟨⟨fun _ h => h, fun _ h => h, trivial⟩, ?_⟩
           refine Zf (ρ' := [(0, _), (1, _), (7, _), (8, _)]) ⟨rfl, rfl, rfl, rfl, trivial⟩ ?_
           refine Zah (Zah (Zab ?_))
           first
            | (refine ⟨[(0, _), (1, _), (7, _), (8, _)], [(1000, _), (1001, _)], ⟨rfl, rfl, rfl, rfl, trivial⟩, ⟨rfl, rfl, trivial⟩, selfQ b, aS, cS, L ++ t, hleS, (by first | rfl | simp), (by first | rfl | (simp only [List.cons.injEq, Prod.mk.injEq, SV.v.injEq, Value.int.injEq, true_and, and_true]; omega) | simp), ?_⟩
               (refine ⟨.inr rfl, ?_⟩; simp only [decide_eq_true_eq, decide_eq_false_iff_not] at *; rw [hpt', if_pos (by omega)]))
            | (refine ⟨[(0, _), (1, _), (7, _), (8, _)], [(1000, _), (1001, _)], ⟨rfl, rfl, rfl, rfl, trivial⟩, ⟨rfl, rfl, trivial⟩, selfQ b, aW, cW, L ++ [32], hleS, (by first | rfl | simp), (by first | rfl | (simp only [List.cons.injEq, Prod.mk.injEq, SV.v.injEq, Value.int.injEq, true_and, and_true]; omega) | simp), ?_⟩
               (refine ⟨.inr rfl, ?_⟩; simp only [decide_eq_true_eq, decide_eq_false_iff_not] at *; rw [hpt', if_neg (by omega), if_pos (by omega)]))
            | (refine ⟨[(0, _), (1, _), (7, _), (8, _)], [(1000, _), (1001, _)], ⟨rfl, rfl, rfl, rfl, trivial⟩, ⟨rfl, rfl, trivial⟩, qR, aR, cR, L ++ plain kids, hleS, (by first | rfl | simp), (by first | rfl | (simp only [List.cons.injEq, Prod.mk.injEq, SV.v.injEq, Value.int.injEq, true_and, and_true]; omega) | simp), ?_⟩
               (refine ⟨hqR, ?_⟩; simp only [decide_eq_true_eq, decide_eq_false_iff_not] at *; rw [hpt', if_neg (by omega), if_neg (by omega), if_pos (by omega)]))
            | (refine ⟨[(0, _), (1, _), (7, _), (8, _)], [(1000, _), (1001, _)], ⟨rfl, rfl, rfl, rfl, trivial⟩, ⟨rfl, rfl, trivial⟩, selfQ b, aT, cT, L ++ d, hleS, (by first | rfl | simp), (by first | rfl | (simp only [List.cons.injEq, Prod.mk.injEq, SV.v.injEq, Value.int.injEq, true_and, and_true]; omega) | simp), ?_⟩
               (refine ⟨.inr rfl, ?_⟩; simp only [decide_eq_true_eq, decide_eq_false_iff_not] at *; rw [hpt', if_neg (by omega), if_neg (by omega), if_neg (by omega), if_pos (by omega)]))
            | (refine ⟨[(0, _), (1, _), (7, _), (8, _)], [(1000, _), (1001, _)], ⟨rfl, rfl, rfl, rfl, trivial⟩, ⟨rfl, rfl, trivial⟩, qi, ai, ci, L, (VLe.refl _), (by first | rfl | simp), (by first | rfl | (simp only [List.cons.injEq, Prod.mk.injEq, SV.v.injEq, Value.int.injEq, true_and, and_true]; omega) | simp), ?_⟩
               (refine ⟨hqi, ?_⟩; simp only [decide_eq_true_eq, decide_eq_false_iff_not] at *; rw [hpt', if_neg (by omega), if_neg (by omega), if_neg (by omega), if_neg (by omega), List.append_nil]))
          ·
           refine Zr (Zah (Zah (Zab ?_)))
           first
            | (refine ⟨[(0, _), (1, _), (7, _), (8, _)], [(1000, _), (1001, _)], ⟨rfl, rfl, rfl, rfl, trivial⟩, ⟨rfl, rfl, trivial⟩, selfQ b, aS, cS, L ++ t, hleS, (by first | rfl | simp), (by first | rfl | (simp only [List.cons.injEq, Prod.mk.injEq, SV.v.injEq, Value.int.injEq, true_and, and_true]; omega) | simp), ?_⟩
               (refine ⟨.inr rfl, ?_⟩; simp only [decide_eq_true_eq, decide_eq_false_iff_not] at *; rw [hpt', if_pos (by omega)]))
            | (refine ⟨[(0, _), (1, _), (7, _), (8, _)], [(1000, _), (1001, _)], ⟨rfl, rfl, rfl, rfl, trivial⟩, ⟨rfl, rfl, trivial⟩, selfQ b, aW, cW, L ++ [32], hleS, (by first | rfl | simp), (by first | rfl | (simp only [List.cons.injEq, Prod.mk.injEq, SV.v.injEq, Value.int.injEq, true_and, and_true]; omega) | simp), ?_⟩
               (refine ⟨.inr rfl, ?_⟩; simp only [decide_eq_true_eq, decide_eq_false_iff_not] at *; rw [hpt', if_neg (by omega), if_pos (by omega)]))
            | (refine ⟨[(0, _), (1, _), (7, _), (8, _)], [(1000, _), (1001, _)], ⟨rfl, rfl, rfl, rfl, trivial⟩, ⟨rfl, rfl, trivial⟩, qR, aR, cR, L ++ plain kids, hleS, (by first | rfl | simp), (by first | rfl | (simp only [List.cons.injEq, Prod.mk.injEq, SV.v.injEq, Value.int.injEq, true_and, and_true]; omega) | simp), ?_⟩
               (refine ⟨hqR, ?_⟩; simp only [decide_eq_true_eq, decide_eq_false_iff_not] at *; rw [hpt', if_neg (by omega), if_neg (by omega), if_pos (by omega)]))
            | (refine ⟨[(0, _), (1, _), (7, _), (8, _)], [(1000, _), (1001, _)], ⟨rfl, rfl, rfl, rfl, trivial⟩, ⟨rfl, rfl, trivial⟩, selfQ b, aT, cT, L ++ d, hleS, (by first | rfl | simp), (by first | rfl | (simp only [List.cons.injEq, Prod.mk.injEq, SV.v.injEq, Value.int.injEq, true_and, and_true]; omega) | simp), ?_⟩
               (refine ⟨.inr rfl, ?_⟩; simp only [decide_eq_true_eq, decide_eq_false_iff_not] at *; rw [hpt', if_neg (by omega), if_neg (by omega), if_neg (by omega), if_pos (by omega)]))
            | (refine ⟨[(0, _), (1, _), (7, _), (8, _)], [(1000, _), (1001, _)], ⟨rfl, rfl, rfl, rfl, trivial⟩, ⟨rfl, rfl, trivial⟩, qi, ai, ci, L, (VLe.refl _), (by first | rfl | simp), (by first | rfl | (simp only [List.cons.injEq, Prod.mk.injEq, SV.v.injEq, Value.int.injEq, true_and, and_true]; omega) | simp), ?_⟩
               (refine ⟨hqi, ?_⟩; simp only [decide_eq_true_eq, decide_eq_false_iff_not] at *; rw [hpt', if_neg (by omega), if_neg (by omega), if_neg (by omega), if_neg (by omega), List.append_nil]))
   ·
    rintro ρ σ uc21 ⟨q2, a2, c2, L2, hlc21, rfl, rfl, ⟨hq2, hL2⟩⟩
    refine Za (Zg (Zav rfl rfl rfl (Zs (by omega))) rfl ?_)
    refine ym rfl rfl (Zf (ρ' := [(0, _), (1, _), (7, _), (8, _)]) ⟨rfl, rfl, rfl, rfl, trivial⟩ ?_)
    refine Zab ?_
    refine ⟨m - 1, [(0, _), (1, _), (7, _), (8, _)], [(1000, _), (1001, _)], by omega, ⟨rfl, rfl, rfl, rfl, trivial⟩, ⟨rfl, rfl, trivial⟩, i + 1, by omega, (hle1.trans hlc21), q2, a2, c2, (by rw [← hL2]), (by first | rfl | simp), ?_⟩
    exact hq2
  ·
   refine Zax ?_
   refine Zq (Zq ?_)
   refine Zaf ?_
   refine finO0n [1000, 1001]  rfl rfl ?_
   have hge := of_decide_eq_false hb1
   rw [List.take_of_length_le (by omega)]
   exact ⟨rfl, _, _, _, hqi, rfl⟩
theorem treePlain_fn (v : Value) (xs : List Inl) (hbig : szI xs ≤ 1000) (htx : txI 100000 xs) (u : View) (ha : InlS u v xs) : FnP Tryz.prog 84 [v] u fun r _ => r = str (plain xs) := by
 have hpl := plain_len 100000 (by omega) xs htx
 refine FnP.intro [.tmp 2] Tryz.func84 rfl rfl rfl ?_
 intro w0 D hw0
 refine Zd (Za (ya rfl rfl (Zf (ρ' := [(0, _)]) ⟨rfl, trivial⟩ ?_)))
 refine Zc (Zd (Za (Zv rfl rfl ?_)))
 refine do_alloc_t trivial Tryz.z143 rfl rfl rfl ?_
 refine rl_nilW 600 5 1 rfl rfl ?_
 refine Zf (ρ' := [(0, _), (3, _)]) ⟨rfl, rfl, trivial⟩ ?_
 refine Zc (Zd (Za (ym rfl rfl ?_)))
 refine Zbz 3 rfl ⟨3, _, .inl rfl⟩ ?_
 intro b3
 refine Zv rfl rfl ?_
 refine Zaj (caps := []) (ρ' := [(3, _)]) [3, 600] [] trivial rfl rfl rfl Tryz.c111 rfl rfl ⟨rfl, trivial⟩ rfl rfl rfl (FnO.mono (writePlain_fn b3 (szI xs) v xs none none 0 [] u (Nat.le_refl _) hbig htx (.inl rfl) (by simp; omega) ha) ?_)
 rintro v uW l1 hleW ⟨rfl, q2, a2, c2, hq2, rfl⟩ -
 refine ⟨⟨fun _ h => h, fun _ h => h, trivial⟩, ?_⟩
 refine Zf (ρ' := [(3, _)]) ⟨rfl, trivial⟩ ?_
 refine Zc (Zd (Za (Zv rfl rfl ?_)))
 refine Zaj (caps := []) (ρ' := []) [3, 600] [] trivial rfl rfl rfl Tryz.c103 rfl rfl trivial rfl rfl rfl (FnO.mono (bldString_fn b3 q2 a2 c2 ([] ++ plain xs) (by simp; omega) _) ?_)
 rintro v uS l1 hleS ⟨rfl, o2, rfl⟩ -
 refine ⟨⟨fun _ h => h, fun _ h => h, trivial⟩, ?_⟩
 refine ya rfl rfl (Zf (ρ' := [(2, _)]) ⟨rfl, trivial⟩ ?_)
 refine Zc (Zw (Zbe (.tmp rfl) ?_))
 simp
set_option maxHeartbeats 4000000 in
theorem refPlain_fn (n : Nat) : ∀ (v : Value) (xs : List Inl) (u : View), szI xs ≤ n → szI xs ≤ 1000 → txI 100000 xs → InlS u v xs → FnP Tryz.prog 21 [v] u fun r _ => r = str (plain xs) := by
 induction n using Nat.strongRecOn with
 | _ n ih =>
 intro v xs u hsz hbig htx ha
 have hlx := len_szI xs
 obtain ⟨cs, ⟨ax, cx, rfl, h1⟩, hc1⟩ := ha
 refine FnP.intro [.tmp 2] Tryz.func21 rfl rfl rfl ?_
 intro w0 D hw0
 refine Zd (Za (ya rfl rfl (Zf (ρ' := [(0, _)]) ⟨rfl, trivial⟩ ?_)))
 refine Zc (Zd (Za (ya rfl rfl (Zf (ρ' := [(0, _), (3, _)]) ⟨rfl, rfl, trivial⟩ ?_))))
 refine Zc (Zd (Zd (Za (ya rfl rfl (Zf (ρ' := [(0, _), (3, _), (4, _)]) ⟨rfl, rfl, rfl, trivial⟩ ?_)))))
 refine Zc (Zad ?_)
 refine Zbc (fun m ρ σ u' => ∃ i : Nat, i + m = xs.length ∧ VLe u u' ∧ σ = [] ∧ ρ = [(0, .v (.slice ax xs.length cx)), (3, .v (str (plain (xs.take i)))), (4, .v (.int .i64 i))] ∧ (u = u')) (xs.length) ?_ ?_
 ·
  refine ⟨[(0, _), (3, _), (4, _)], [], ⟨rfl, rfl, rfl, trivial⟩, trivial, 0, by omega, VLe.refl _, (by first | rfl | simp), (by first | rfl | (simp only [List.cons.injEq, Prod.mk.injEq, SV.v.injEq, Value.int.injEq, true_and, and_true]; omega) | simp), ?_⟩
  rfl
 ·
  rintro m ρ σ u' ⟨i, hi3, hle3, rfl, rfl, rfl⟩
  refine Zd (Zd (Za (ym rfl rfl (ym rfl rfl (Zg (Zaq rfl rfl Tryz.s35 rfl) rfl (Zg (Zbn rfl rfl rfl) rfl (Zf (ρ' := [(0, _), (3, _), (4, _), (8, _)]) ⟨rfl, rfl, rfl, rfl, trivial⟩ ?_)))))))
  refine Zc ?_
  refine Zo rfl (fun hb3 => ?_) (fun hb3 => ?_)
  ·
   have hlt : i < xs.length := (by have := of_decide_eq_true hb3; omega)
   refine Zr (Zc ?_)
   refine Zbu (fun ρ σ uc4 => ∃ (L2 : Bs), VLe u uc4 ∧ σ = [] ∧ ρ = [(0, .v (.slice ax xs.length cx)), (3, .v (str L2)), (4, .v (.int .i64 i))] ∧ (u = uc4 ∧ L2 = plain (xs.take (i + 1)))) ?_ ?_
   ·
    refine Zad (Zd ?_)
    obtain ⟨k, t, d, ti, a, args, cites, kids, vc, vp, va, vt, vk, hg, hcut1, s1, s2, s3, s4, s5, hok⟩ := hc1.at hlt
    have oneAll := (hc1.get i _ hg).one
    rw [hcut1] at oneAll
    have hszk := szI_kids hg
    have hpl := plain_take_len 100000 (by omega) htx i
    have hpl2 := plain_take_len 100000 (by omega) htx (i + 1)
    obtain ⟨tx1, tx2, tx3, tx4⟩ := txI_kids htx hg
    have hpk := plain_len 100000 (by omega) kids tx4
    have hpt := plain_take hg
    rw [plain1_eq] at hpt
    generalize plain (xs.take i) = L at hpl hpt ⊢
    refine Za (ym rfl rfl (ym rfl rfl (Zg (Zai rfl Tryz.s35 rfl rfl (by assumption) (by first | rfl | omega) (by omega)) rfl (Zg (Zau rfl Tryz.f42' rfl (by decide) rfl) rfl (Zg (Zag rfl Tryz.k3 rfl (by assumption) (by omega) (by assumption) (vs := [_]) rfl rfl rfl rfl) rfl (Zf (ρ' := [(0, _), (3, _), (4, _), (15, _)]) ⟨rfl, rfl, rfl, rfl, trivial⟩ ?_))))))
    refine Zc (Zad ?_)
    refine Zbu (fun ρ σ uci9 => VLe u uci9 ∧ σ = [] ∧ ρ = [(0, .v (.slice ax xs.length cx)), (3, .v (str L)), (4, .v (.int .i64 i)), (15, .v (.int .i64 k)), (16, .v (.bool (decide (k = 1 ∨ k = 4 ∨ k = 5))))] ∧ (u = uci9)) ?_ ?_
    ·
     refine Zd (Za (Zg (Zaw rfl rfl rfl) rfl (ya rfl rfl (Zf (ρ' := [(0, _), (3, _), (4, _), (15, _), (16, _)]) ⟨rfl, rfl, rfl, rfl, rfl, trivial⟩ ?_))))
     refine Zc ?_
     refine Zo rfl (fun hb6 => ?_) (fun hb6 => ?_)
     ·
      refine Zr (Zab ?_)
      refine ⟨[(0, _), (3, _), (4, _), (15, _), (16, _)], [], ⟨rfl, rfl, rfl, rfl, rfl, trivial⟩, trivial, (VLe.refl _), rfl, (by first | rfl | (simp only [List.cons.injEq, Prod.mk.injEq, SV.v.injEq, Value.bool.injEq, eq_self, true_and, and_true]; exact decide_eq_decide.2 (by simp only [decide_eq_true_eq, decide_eq_false_iff_not] at *; omega))), ?_⟩
      rfl
     ·
      refine Zd (Za (Zg (Zaw rfl rfl rfl) rfl (ya rfl rfl (Zf (ρ' := [(0, _), (3, _), (4, _), (15, _), (16, _)]) ⟨rfl, rfl, rfl, rfl, rfl, trivial⟩ ?_))))
      refine Zc ?_
      refine Zo rfl (fun hb7 => ?_) (fun hb7 => ?_)
      ·
       refine Zr (Zab ?_)
       refine ⟨[(0, _), (3, _), (4, _), (15, _), (16, _)], [], ⟨rfl, rfl, rfl, rfl, rfl, trivial⟩, trivial, (VLe.refl _), rfl, (by first | rfl | (simp only [List.cons.injEq, Prod.mk.injEq, SV.v.injEq, Value.bool.injEq, eq_self, true_and, and_true]; exact decide_eq_decide.2 (by simp only [decide_eq_true_eq, decide_eq_false_iff_not] at *; omega))), ?_⟩
       rfl
      ·
       refine Za (Zg (Zaw rfl rfl rfl) rfl (ya rfl rfl (Zf (ρ' := [(0, _), (3, _), (4, _), (15, _), (16, _)]) ⟨rfl, rfl, rfl, rfl, rfl, trivial⟩ ?_)))
       refine Zab ?_
       refine ⟨[(0, _), (3, _), (4, _), (15, _), (16, _)], [], ⟨rfl, rfl, rfl, rfl, rfl, trivial⟩, trivial, (VLe.refl _), rfl, (by first | rfl | (simp only [List.cons.injEq, Prod.mk.injEq, SV.v.injEq, Value.bool.injEq, eq_self, true_and, and_true]; exact decide_eq_decide.2 (by simp only [decide_eq_true_eq, decide_eq_false_iff_not] at *; omega))), ?_⟩
       rfl
    ·
     rintro ρ σ uci9 ⟨hlci9, rfl, rfl, rfl⟩
     refine Zo rfl (fun hb8 => ?_) (fun hb8 => ?_)
     ·
      refine Za (ym rfl rfl (ym rfl rfl (ym rfl rfl (Zg (Zai rfl Tryz.s35 rfl rfl (by assumption) (by first | rfl | omega) (by omega)) rfl (Zg (Zau rfl Tryz.f42' rfl (by decide) rfl) rfl (Zg (Zag rfl Tryz.k9 rfl (by assumption) (by omega) (by assumption) (vs := [_]) rfl rfl rfl rfl) rfl (Zg (Zcd rfl rfl rfl (by omega)) rfl ?_)))))))
      refine ya rfl rfl (Zf (ρ' := [(0, _), (3, _), (4, _)]) ⟨rfl, rfl, rfl, trivial⟩ ?_)
      refine Zah (Zah (Zab ?_))
      first
       | (refine ⟨[(0, _), (3, _), (4, _)], [], ⟨rfl, rfl, rfl, trivial⟩, trivial, L ++ t, (VLe.refl _), (by first | rfl | simp), (by first | rfl | (simp only [List.cons.injEq, Prod.mk.injEq, SV.v.injEq, Value.int.injEq, true_and, and_true]; omega) | simp), ?_⟩
          (refine ⟨rfl, ?_⟩; simp only [decide_eq_true_eq, decide_eq_false_iff_not] at *; rw [hpt, if_pos (by omega)]))
       | (refine ⟨[(0, _), (3, _), (4, _)], [], ⟨rfl, rfl, rfl, trivial⟩, trivial, L ++ [32], (VLe.refl _), (by first | rfl | simp), (by first | rfl | (simp only [List.cons.injEq, Prod.mk.injEq, SV.v.injEq, Value.int.injEq, true_and, and_true]; omega) | simp), ?_⟩
          (refine ⟨rfl, ?_⟩; simp only [decide_eq_true_eq, decide_eq_false_iff_not] at *; rw [hpt, if_neg (by omega), if_pos (by omega)]))
       | (refine ⟨[(0, _), (3, _), (4, _)], [], ⟨rfl, rfl, rfl, trivial⟩, trivial, L ++ plain kids, (VLe.refl _), (by first | rfl | simp), (by first | rfl | (simp only [List.cons.injEq, Prod.mk.injEq, SV.v.injEq, Value.int.injEq, true_and, and_true]; omega) | simp), ?_⟩
          (refine ⟨rfl, ?_⟩; simp only [decide_eq_true_eq, decide_eq_false_iff_not] at *; rw [hpt, if_neg (by omega), if_neg (by omega), if_pos (by omega)]))
       | (refine ⟨[(0, _), (3, _), (4, _)], [], ⟨rfl, rfl, rfl, trivial⟩, trivial, L ++ d, (VLe.refl _), (by first | rfl | simp), (by first | rfl | (simp only [List.cons.injEq, Prod.mk.injEq, SV.v.injEq, Value.int.injEq, true_and, and_true]; omega) | simp), ?_⟩
          (refine ⟨rfl, ?_⟩; simp only [decide_eq_true_eq, decide_eq_false_iff_not] at *; rw [hpt, if_neg (by omega), if_neg (by omega), if_neg (by omega), if_pos (by omega)]))
       | (refine ⟨[(0, _), (3, _), (4, _)], [], ⟨rfl, rfl, rfl, trivial⟩, trivial, L, (VLe.refl _), (by first | rfl | simp), (by first | rfl | (simp only [List.cons.injEq, Prod.mk.injEq, SV.v.injEq, Value.int.injEq, true_and, and_true]; omega) | simp), ?_⟩
          (refine ⟨rfl, ?_⟩; simp only [decide_eq_true_eq, decide_eq_false_iff_not] at *; rw [hpt, if_neg (by omega), if_neg (by omega), if_neg (by omega), if_neg (by omega), List.append_nil]))
     ·
      refine Zbu (fun ρ σ uci12 => VLe u uci12 ∧ σ = [] ∧ ρ = [(0, .v (.slice ax xs.length cx)), (3, .v (str L)), (4, .v (.int .i64 i)), (15, .v (.int .i64 k)), (27, .v (.bool (decide (k = 2 ∨ k = 3))))] ∧ (u = uci12)) ?_ ?_
      ·
       refine Zd (Za (Zg (Zaw rfl rfl rfl) rfl (ya rfl rfl (Zf (ρ' := [(0, _), (3, _), (4, _), (15, _), (27, _)]) ⟨rfl, rfl, rfl, rfl, rfl, trivial⟩ ?_))))
       refine Zc ?_
       refine Zo rfl (fun hb10 => ?_) (fun hb10 => ?_)
       ·
        refine Zr (Zab ?_)
        refine ⟨[(0, _), (3, _), (4, _), (15, _), (27, _)], [], ⟨rfl, rfl, rfl, rfl, rfl, trivial⟩, trivial, (VLe.refl _), rfl, (by first | rfl | (simp only [List.cons.injEq, Prod.mk.injEq, SV.v.injEq, Value.bool.injEq, eq_self, true_and, and_true]; exact decide_eq_decide.2 (by simp only [decide_eq_true_eq, decide_eq_false_iff_not] at *; omega))), ?_⟩
        rfl
       ·
        refine Za (Zg (Zaw rfl rfl rfl) rfl (ya rfl rfl (Zf (ρ' := [(0, _), (3, _), (4, _), (15, _), (27, _)]) ⟨rfl, rfl, rfl, rfl, rfl, trivial⟩ ?_)))
        refine Zab ?_
        refine ⟨[(0, _), (3, _), (4, _), (15, _), (27, _)], [], ⟨rfl, rfl, rfl, rfl, rfl, trivial⟩, trivial, (VLe.refl _), rfl, (by first | rfl | (simp only [List.cons.injEq, Prod.mk.injEq, SV.v.injEq, Value.bool.injEq, eq_self, true_and, and_true]; exact decide_eq_decide.2 (by simp only [decide_eq_true_eq, decide_eq_false_iff_not] at *; omega))), ?_⟩
        rfl
      ·
       rintro ρ σ uci12 ⟨hlci12, rfl, rfl, rfl⟩
       refine Zo rfl (fun hb11 => ?_) (fun hb11 => ?_)
       ·
        refine Za (ym rfl rfl (Zg (Zcd (m := [32]) rfl rfl rfl (by simp; omega)) rfl (ya rfl rfl (Zf (ρ' := [(0, _), (3, _), (4, _)]) ⟨rfl, rfl, rfl, trivial⟩ ?_))))
        refine Zah (Zah (Zab ?_))
        first
         | (refine ⟨[(0, _), (3, _), (4, _)], [], ⟨rfl, rfl, rfl, trivial⟩, trivial, L ++ t, (VLe.refl _), (by first | rfl | simp), (by first | rfl | (simp only [List.cons.injEq, Prod.mk.injEq, SV.v.injEq, Value.int.injEq, true_and, and_true]; omega) | simp), ?_⟩
            (refine ⟨rfl, ?_⟩; simp only [decide_eq_true_eq, decide_eq_false_iff_not] at *; rw [hpt, if_pos (by omega)]))
         | (refine ⟨[(0, _), (3, _), (4, _)], [], ⟨rfl, rfl, rfl, trivial⟩, trivial, L ++ [32], (VLe.refl _), (by first | rfl | simp), (by first | rfl | (simp only [List.cons.injEq, Prod.mk.injEq, SV.v.injEq, Value.int.injEq, true_and, and_true]; omega) | simp), ?_⟩
            (refine ⟨rfl, ?_⟩; simp only [decide_eq_true_eq, decide_eq_false_iff_not] at *; rw [hpt, if_neg (by omega), if_pos (by omega)]))
         | (refine ⟨[(0, _), (3, _), (4, _)], [], ⟨rfl, rfl, rfl, trivial⟩, trivial, L ++ plain kids, (VLe.refl _), (by first | rfl | simp), (by first | rfl | (simp only [List.cons.injEq, Prod.mk.injEq, SV.v.injEq, Value.int.injEq, true_and, and_true]; omega) | simp), ?_⟩
            (refine ⟨rfl, ?_⟩; simp only [decide_eq_true_eq, decide_eq_false_iff_not] at *; rw [hpt, if_neg (by omega), if_neg (by omega), if_pos (by omega)]))
         | (refine ⟨[(0, _), (3, _), (4, _)], [], ⟨rfl, rfl, rfl, trivial⟩, trivial, L ++ d, (VLe.refl _), (by first | rfl | simp), (by first | rfl | (simp only [List.cons.injEq, Prod.mk.injEq, SV.v.injEq, Value.int.injEq, true_and, and_true]; omega) | simp), ?_⟩
            (refine ⟨rfl, ?_⟩; simp only [decide_eq_true_eq, decide_eq_false_iff_not] at *; rw [hpt, if_neg (by omega), if_neg (by omega), if_neg (by omega), if_pos (by omega)]))
         | (refine ⟨[(0, _), (3, _), (4, _)], [], ⟨rfl, rfl, rfl, trivial⟩, trivial, L, (VLe.refl _), (by first | rfl | simp), (by first | rfl | (simp only [List.cons.injEq, Prod.mk.injEq, SV.v.injEq, Value.int.injEq, true_and, and_true]; omega) | simp), ?_⟩
            (refine ⟨rfl, ?_⟩; simp only [decide_eq_true_eq, decide_eq_false_iff_not] at *; rw [hpt, if_neg (by omega), if_neg (by omega), if_neg (by omega), if_neg (by omega), List.append_nil]))
       ·
        refine Zbu (fun ρ σ uci19 => VLe u uci19 ∧ σ = [] ∧ ρ = [(0, .v (.slice ax xs.length cx)), (3, .v (str L)), (4, .v (.int .i64 i)), (15, .v (.int .i64 k)), (32, .v (.bool (decide (6 ≤ k ∧ k ≤ 11))))] ∧ (u = uci19)) ?_ ?_
        ·
         refine Zd (Za (Zg (Zaw rfl rfl rfl) rfl (ya rfl rfl (Zf (ρ' := [(0, _), (3, _), (4, _), (15, _), (32, _)]) ⟨rfl, rfl, rfl, rfl, rfl, trivial⟩ ?_))))
         refine Zc ?_
         refine Zo rfl (fun hb13 => ?_) (fun hb13 => ?_)
         ·
          refine Zr (Zab ?_)
          refine ⟨[(0, _), (3, _), (4, _), (15, _), (32, _)], [], ⟨rfl, rfl, rfl, rfl, rfl, trivial⟩, trivial, (VLe.refl _), rfl, (by first | rfl | (simp only [List.cons.injEq, Prod.mk.injEq, SV.v.injEq, Value.bool.injEq, eq_self, true_and, and_true]; exact decide_eq_decide.2 (by simp only [decide_eq_true_eq, decide_eq_false_iff_not] at *; omega))), ?_⟩
          rfl
         ·
          refine Zd (Za (Zg (Zaw rfl rfl rfl) rfl (ya rfl rfl (Zf (ρ' := [(0, _), (3, _), (4, _), (15, _), (32, _)]) ⟨rfl, rfl, rfl, rfl, rfl, trivial⟩ ?_))))
          refine Zc ?_
          refine Zo rfl (fun hb14 => ?_) (fun hb14 => ?_)
          ·
           refine Zr (Zab ?_)
           refine ⟨[(0, _), (3, _), (4, _), (15, _), (32, _)], [], ⟨rfl, rfl, rfl, rfl, rfl, trivial⟩, trivial, (VLe.refl _), rfl, (by first | rfl | (simp only [List.cons.injEq, Prod.mk.injEq, SV.v.injEq, Value.bool.injEq, eq_self, true_and, and_true]; exact decide_eq_decide.2 (by simp only [decide_eq_true_eq, decide_eq_false_iff_not] at *; omega))), ?_⟩
           rfl
          ·
           refine Zd (Za (Zg (Zaw rfl rfl rfl) rfl (ya rfl rfl (Zf (ρ' := [(0, _), (3, _), (4, _), (15, _), (32, _)]) ⟨rfl, rfl, rfl, rfl, rfl, trivial⟩ ?_))))
           refine Zc ?_
           refine Zo rfl (fun hb15 => ?_) (fun hb15 => ?_)
           ·
            refine Zr (Zab ?_)
            refine ⟨[(0, _), (3, _), (4, _), (15, _), (32, _)], [], ⟨rfl, rfl, rfl, rfl, rfl, trivial⟩, trivial, (VLe.refl _), rfl, (by first | rfl | (simp only [List.cons.injEq, Prod.mk.injEq, SV.v.injEq, Value.bool.injEq, eq_self, true_and, and_true]; exact decide_eq_decide.2 (by simp only [decide_eq_true_eq, decide_eq_false_iff_not] at *; omega))), ?_⟩
            rfl
           ·
            refine Zd (Za (Zg (Zaw rfl rfl rfl) rfl (ya rfl rfl (Zf (ρ' := [(0, _), (3, _), (4, _), (15, _), (32, _)]) ⟨rfl, rfl, rfl, rfl, rfl, trivial⟩ ?_))))
            refine Zc ?_
            refine Zo rfl (fun hb16 => ?_) (fun hb16 => ?_)
            ·
             refine Zr (Zab ?_)
             refine ⟨[(0, _), (3, _), (4, _), (15, _), (32, _)], [], ⟨rfl, rfl, rfl, rfl, rfl, trivial⟩, trivial, (VLe.refl _), rfl, (by first | rfl | (simp only [List.cons.injEq, Prod.mk.injEq, SV.v.injEq, Value.bool.injEq, eq_self, true_and, and_true]; exact decide_eq_decide.2 (by simp only [decide_eq_true_eq, decide_eq_false_iff_not] at *; omega))), ?_⟩
             rfl
            ·
             refine Zd (Za (Zg (Zaw rfl rfl rfl) rfl (ya rfl rfl (Zf (ρ' := [(0, _), (3, _), (4, _), (15, _), (32, _)]) ⟨rfl, rfl, rfl, rfl, rfl, trivial⟩ ?_))))
             refine Zc ?_
             refine Zo rfl (fun hb17 => ?_) (fun hb17 => ?_)
             ·
              refine Zr (Zab ?_)
              refine ⟨[(0, _), (3, _), (4, _), (15, _), (32, _)], [], ⟨rfl, rfl, rfl, rfl, rfl, trivial⟩, trivial, (VLe.refl _), rfl, (by first | rfl | (simp only [List.cons.injEq, Prod.mk.injEq, SV.v.injEq, Value.bool.injEq, eq_self, true_and, and_true]; exact decide_eq_decide.2 (by simp only [decide_eq_true_eq, decide_eq_false_iff_not] at *; omega))), ?_⟩
              rfl
             ·
              refine Za (Zg (Zaw rfl rfl rfl) rfl (ya rfl rfl (Zf (ρ' := [(0, _), (3, _), (4, _), (15, _), (32, _)]) ⟨rfl, rfl, rfl, rfl, rfl, trivial⟩ ?_)))
              refine Zab ?_
              refine ⟨[(0, _), (3, _), (4, _), (15, _), (32, _)], [], ⟨rfl, rfl, rfl, rfl, rfl, trivial⟩, trivial, (VLe.refl _), rfl, (by first | rfl | (simp only [List.cons.injEq, Prod.mk.injEq, SV.v.injEq, Value.bool.injEq, eq_self, true_and, and_true]; exact decide_eq_decide.2 (by simp only [decide_eq_true_eq, decide_eq_false_iff_not] at *; omega))), ?_⟩
              rfl
        ·
         rintro ρ σ uci19 ⟨hlci19, rfl, rfl, rfl⟩
         refine Zo rfl (fun hb18 => ?_) (fun hb18 => ?_)
         ·
          refine Za (ym rfl rfl (ym rfl rfl (ym rfl rfl (Zg (Zai rfl Tryz.s35 rfl rfl (by assumption) (by first | rfl | omega) (by omega)) rfl (Zg (Zau rfl Tryz.f42' rfl (by decide) rfl) rfl (Zg (Zag rfl Tryz.k35 rfl (by assumption) (by omega) (by assumption) (vs := [_]) rfl rfl rfl rfl) rfl (Zv rfl rfl ?_)))))))
          refine Zaa (caps := []) trivial rfl rfl Tryz.c21 rfl (FnP.mono (ih (szI kids) (by omega) vk kids _ (Nat.le_refl _) (by omega) tx4 s5) ?_)
          rintro v u1 hle1 rfl
          refine Zg (Zcd rfl rfl rfl (by omega)) rfl (ya rfl rfl (Zf (ρ' := [(0, _), (3, _), (4, _)]) ⟨rfl, rfl, rfl, trivial⟩ ?_))
          refine Zah (Zah (Zab ?_))
          first
           | (refine ⟨[(0, _), (3, _), (4, _)], [], ⟨rfl, rfl, rfl, trivial⟩, trivial, L ++ t, (VLe.refl _), (by first | rfl | simp), (by first | rfl | (simp only [List.cons.injEq, Prod.mk.injEq, SV.v.injEq, Value.int.injEq, true_and, and_true]; omega) | simp), ?_⟩
              (refine ⟨rfl, ?_⟩; simp only [decide_eq_true_eq, decide_eq_false_iff_not] at *; rw [hpt, if_pos (by omega)]))
           | (refine ⟨[(0, _), (3, _), (4, _)], [], ⟨rfl, rfl, rfl, trivial⟩, trivial, L ++ [32], (VLe.refl _), (by first | rfl | simp), (by first | rfl | (simp only [List.cons.injEq, Prod.mk.injEq, SV.v.injEq, Value.int.injEq, true_and, and_true]; omega) | simp), ?_⟩
              (refine ⟨rfl, ?_⟩; simp only [decide_eq_true_eq, decide_eq_false_iff_not] at *; rw [hpt, if_neg (by omega), if_pos (by omega)]))
           | (refine ⟨[(0, _), (3, _), (4, _)], [], ⟨rfl, rfl, rfl, trivial⟩, trivial, L ++ plain kids, (VLe.refl _), (by first | rfl | simp), (by first | rfl | (simp only [List.cons.injEq, Prod.mk.injEq, SV.v.injEq, Value.int.injEq, true_and, and_true]; omega) | simp), ?_⟩
              (refine ⟨rfl, ?_⟩; simp only [decide_eq_true_eq, decide_eq_false_iff_not] at *; rw [hpt, if_neg (by omega), if_neg (by omega), if_pos (by omega)]))
           | (refine ⟨[(0, _), (3, _), (4, _)], [], ⟨rfl, rfl, rfl, trivial⟩, trivial, L ++ d, (VLe.refl _), (by first | rfl | simp), (by first | rfl | (simp only [List.cons.injEq, Prod.mk.injEq, SV.v.injEq, Value.int.injEq, true_and, and_true]; omega) | simp), ?_⟩
              (refine ⟨rfl, ?_⟩; simp only [decide_eq_true_eq, decide_eq_false_iff_not] at *; rw [hpt, if_neg (by omega), if_neg (by omega), if_neg (by omega), if_pos (by omega)]))
           | (refine ⟨[(0, _), (3, _), (4, _)], [], ⟨rfl, rfl, rfl, trivial⟩, trivial, L, (VLe.refl _), (by first | rfl | simp), (by first | rfl | (simp only [List.cons.injEq, Prod.mk.injEq, SV.v.injEq, Value.int.injEq, true_and, and_true]; omega) | simp), ?_⟩
              (refine ⟨rfl, ?_⟩; simp only [decide_eq_true_eq, decide_eq_false_iff_not] at *; rw [hpt, if_neg (by omega), if_neg (by omega), if_neg (by omega), if_neg (by omega), List.append_nil]))
         ·
          refine Zd (Za (Zg (Zaw rfl rfl rfl) rfl (ya rfl rfl (Zf (ρ' := [(0, _), (3, _), (4, _), (47, _)]) ⟨rfl, rfl, rfl, rfl, trivial⟩ ?_))))
          refine Zc ?_
          refine Zo rfl (fun hb20 => ?_) (fun hb20 => ?_)
          ·
           refine Za (ym rfl rfl (ym rfl rfl (ym rfl rfl (Zg (Zai rfl Tryz.s35 rfl rfl (by assumption) (by first | rfl | omega) (by omega)) rfl (Zg (Zau rfl Tryz.f42' rfl (by decide) rfl) rfl (Zg (Zag rfl Tryz.k9 rfl (by assumption) (by omega) (by assumption) (vs := [_]) rfl rfl rfl rfl) rfl (Zg (Zcd rfl rfl rfl (by omega)) rfl ?_)))))))
           refine ya rfl rfl (Zf (ρ' := [(0, _), (3, _), (4, _)]) ⟨rfl, rfl, rfl, trivial⟩ ?_)
           refine Zah (Zah (Zab ?_))
           first
            | (refine ⟨[(0, _), (3, _), (4, _)], [], ⟨rfl, rfl, rfl, trivial⟩, trivial, L ++ t, (VLe.refl _), (by first | rfl | simp), (by first | rfl | (simp only [List.cons.injEq, Prod.mk.injEq, SV.v.injEq, Value.int.injEq, true_and, and_true]; omega) | simp), ?_⟩
               (refine ⟨rfl, ?_⟩; simp only [decide_eq_true_eq, decide_eq_false_iff_not] at *; rw [hpt, if_pos (by omega)]))
            | (refine ⟨[(0, _), (3, _), (4, _)], [], ⟨rfl, rfl, rfl, trivial⟩, trivial, L ++ [32], (VLe.refl _), (by first | rfl | simp), (by first | rfl | (simp only [List.cons.injEq, Prod.mk.injEq, SV.v.injEq, Value.int.injEq, true_and, and_true]; omega) | simp), ?_⟩
               (refine ⟨rfl, ?_⟩; simp only [decide_eq_true_eq, decide_eq_false_iff_not] at *; rw [hpt, if_neg (by omega), if_pos (by omega)]))
            | (refine ⟨[(0, _), (3, _), (4, _)], [], ⟨rfl, rfl, rfl, trivial⟩, trivial, L ++ plain kids, (VLe.refl _), (by first | rfl | simp), (by first | rfl | (simp only [List.cons.injEq, Prod.mk.injEq, SV.v.injEq, Value.int.injEq, true_and, and_true]; omega) | simp), ?_⟩
               (refine ⟨rfl, ?_⟩; simp only [decide_eq_true_eq, decide_eq_false_iff_not] at *; rw [hpt, if_neg (by omega), if_neg (by omega), if_pos (by omega)]))
            | (refine ⟨[(0, _), (3, _), (4, _)], [], ⟨rfl, rfl, rfl, trivial⟩, trivial, L ++ d, (VLe.refl _), (by first | rfl | simp), (by first | rfl | (simp only [List.cons.injEq, Prod.mk.injEq, SV.v.injEq, Value.int.injEq, true_and, and_true]; omega) | simp), ?_⟩
               (refine ⟨rfl, ?_⟩; simp only [decide_eq_true_eq, decide_eq_false_iff_not] at *; rw [hpt, if_neg (by omega), if_neg (by omega), if_neg (by omega), if_pos (by omega)]))
            | (refine ⟨[(0, _), (3, _), (4, _)], [], ⟨rfl, rfl, rfl, trivial⟩, trivial, L, (VLe.refl _), (by first | rfl | simp), (by first | rfl | (simp only [List.cons.injEq, Prod.mk.injEq, SV.v.injEq, Value.int.injEq, true_and, and_true]; omega) | simp), ?_⟩
               (refine ⟨rfl, ?_⟩; simp only [decide_eq_true_eq, decide_eq_false_iff_not] at *; rw [hpt, if_neg (by omega), if_neg (by omega), if_neg (by omega), if_neg (by omega), List.append_nil]))
          ·
           refine Zr (Zah (Zah (Zab ?_)))
           first
            | (refine ⟨[(0, _), (3, _), (4, _)], [], ⟨rfl, rfl, rfl, trivial⟩, trivial, L ++ t, (VLe.refl _), (by first | rfl | simp), (by first | rfl | (simp only [List.cons.injEq, Prod.mk.injEq, SV.v.injEq, Value.int.injEq, true_and, and_true]; omega) | simp), ?_⟩
               (refine ⟨rfl, ?_⟩; simp only [decide_eq_true_eq, decide_eq_false_iff_not] at *; rw [hpt, if_pos (by omega)]))
            | (refine ⟨[(0, _), (3, _), (4, _)], [], ⟨rfl, rfl, rfl, trivial⟩, trivial, L ++ [32], (VLe.refl _), (by first | rfl | simp), (by first | rfl | (simp only [List.cons.injEq, Prod.mk.injEq, SV.v.injEq, Value.int.injEq, true_and, and_true]; omega) | simp), ?_⟩
               (refine ⟨rfl, ?_⟩; simp only [decide_eq_true_eq, decide_eq_false_iff_not] at *; rw [hpt, if_neg (by omega), if_pos (by omega)]))
            | (refine ⟨[(0, _), (3, _), (4, _)], [], ⟨rfl, rfl, rfl, trivial⟩, trivial, L ++ plain kids, (VLe.refl _), (by first | rfl | simp), (by first | rfl | (simp only [List.cons.injEq, Prod.mk.injEq, SV.v.injEq, Value.int.injEq, true_and, and_true]; omega) | simp), ?_⟩
               (refine ⟨rfl, ?_⟩; simp only [decide_eq_true_eq, decide_eq_false_iff_not] at *; rw [hpt, if_neg (by omega), if_neg (by omega), if_pos (by omega)]))
            | (refine ⟨[(0, _), (3, _), (4, _)], [], ⟨rfl, rfl, rfl, trivial⟩, trivial, L ++ d, (VLe.refl _), (by first | rfl | simp), (by first | rfl | (simp only [List.cons.injEq, Prod.mk.injEq, SV.v.injEq, Value.int.injEq, true_and, and_true]; omega) | simp), ?_⟩
               (refine ⟨rfl, ?_⟩; simp only [decide_eq_true_eq, decide_eq_false_iff_not] at *; rw [hpt, if_neg (by omega), if_neg (by omega), if_neg (by omega), if_pos (by omega)]))
            | (refine ⟨[(0, _), (3, _), (4, _)], [], ⟨rfl, rfl, rfl, trivial⟩, trivial, L, (VLe.refl _), (by first | rfl | simp), (by first | rfl | (simp only [List.cons.injEq, Prod.mk.injEq, SV.v.injEq, Value.int.injEq, true_and, and_true]; omega) | simp), ?_⟩
               (refine ⟨rfl, ?_⟩; simp only [decide_eq_true_eq, decide_eq_false_iff_not] at *; rw [hpt, if_neg (by omega), if_neg (by omega), if_neg (by omega), if_neg (by omega), List.append_nil]))
   ·
    rintro ρ σ uc4 ⟨L2, hlc4, rfl, rfl, ⟨rfl, hL2⟩⟩
    refine Za (ym rfl rfl (Zg (Zav rfl rfl rfl (Zs (by omega))) rfl ?_))
    refine ya rfl rfl (Zf (ρ' := [(0, _), (3, _), (4, _)]) ⟨rfl, rfl, rfl, trivial⟩ ?_)
    refine Zab ?_
    refine ⟨m - 1, [(0, _), (3, _), (4, _)], [], by omega, ⟨rfl, rfl, rfl, trivial⟩, trivial, i + 1, by omega, hle3, rfl, (by rw [hL2]; first | rfl | simp), ?_⟩
    rfl
  ·
   refine Zax ?_
   refine Zq (Zq ?_)
   refine Zaf ?_
   refine Zc (Zd (Za (ym rfl rfl (ya rfl rfl (Zf (ρ' := [(2, _)]) ⟨rfl, trivial⟩ ?_)))))
   refine Zc (Zw (Zbe (.tmp rfl) ?_))
   have hge := of_decide_eq_false hb3
   rw [List.take_of_length_le (by omega)]
end Go.Proofs.Ythkgcakpjknlbaa
namespace Go.Proofs
open Go.Shelf
def Tryz.lays156_ren : Go.Shelf.Ren := ⟨fun | 156 => 80 | 165 => 101 | 166 => 102 | 169 => 103 | 240 => 128 | 241 => 129 | 276 => 151 | 277 => 152 | n => n, fun | 31 => 37 | 9 => 9 | 3 => 3 | 4 => 4 | 0 => 0 | 20 => 20 | 72 => 143 | 76 => 147 | 70 => 140 | 37 => 141 | 75 => 146 | 127 => 166 | 164 => 181 | 5 => 5 | 80 => 149 | n => n, fun | n => n⟩
theorem Tryz.lays156 : Go.Proofs.Lays.n156 Tryz.prog Tryz.lays156_ren := {
 mixed := by kernel_rfl
 f156 := Tryz.func80.trans (congrArg some (by kernel_rfl))
 f165 := Tryz.func101.trans (congrArg some (by kernel_rfl))
 f166 := Tryz.func102.trans (congrArg some (by kernel_rfl))
 f169 := Tryz.func103.trans (congrArg some (by kernel_rfl))
 f240 := Tryz.func128.trans (congrArg some (by kernel_rfl))
 f241 := Tryz.func129.trans (congrArg some (by kernel_rfl))
 f276 := Tryz.func151.trans (congrArg some (by kernel_rfl))
 f277 := Tryz.func152.trans (congrArg some (by kernel_rfl))
 t0 := Tryz.underlying0
 a0 := Tryz.isAgg0
 z0 := Tryz.sizeOf0
 v0 := Tryz.zeroValue0
 t3 := Tryz.underlying3
 a3 := Tryz.isAgg3
 z3 := Tryz.sizeOf3
 v3 := Tryz.zeroValue3
 t4 := Tryz.underlying4
 a4 := Tryz.isAgg4
 z4 := Tryz.sizeOf4
 v4 := Tryz.zeroValue4
 t9 := Tryz.underlying9
 a9 := Tryz.isAgg9
 z9 := Tryz.sizeOf9
 v9 := Tryz.zeroValue9
 t20 := Tryz.underlying20
 a20 := Tryz.isAgg20
 z20 := Tryz.sizeOf20
 v20 := Tryz.zeroValue20
 t31 := Tryz.underlying37
 a31 := Tryz.isAgg37
 z31 := Tryz.sizeOf37
 v31 := Tryz.zeroValue37
 t37 := Tryz.underlying141
 a37 := Tryz.isAgg141
 z37 := Tryz.sizeOf141
 v37 := Tryz.zeroValue141
 t70 := Tryz.underlying140
 a70 := Tryz.isAgg140
 z70 := Tryz.sizeOf140
 v70 := Tryz.zeroValue140
 t72 := Tryz.underlying143
 a72 := Tryz.isAgg143
 z72 := Tryz.sizeOf143
 v72 := Tryz.zeroValue143
 t75 := Tryz.underlying146
 a75 := Tryz.isAgg146
 z75 := Tryz.sizeOf146
 v75 := Tryz.zeroValue146
 t76 := Tryz.underlying147
 a76 := Tryz.isAgg147
 z76 := Tryz.sizeOf147
 v76 := Tryz.zeroValue147
 t127 := Tryz.underlying166
 a127 := Tryz.isAgg166
 z127 := Tryz.sizeOf166
 v127 := Tryz.zeroValue166
 t164 := Tryz.underlying181
 a164 := Tryz.isAgg181
 z164 := Tryz.sizeOf181
 v164 := Tryz.zeroValue181 }
theorem Tryz.Builder_Extra_156 : Builder.Extra Tryz.prog Tryz.lays156_ren := {
 sizeBuilder := by kernel_rfl
 liesBuilder := by kernel_rfl
 t5 := Tryz.underlying5
 a5 := Tryz.isAgg5
 z5 := Tryz.sizeOf5
 v5 := Tryz.zeroValue5
 infoByte := by kernel_rfl
 cellsByte := by kernel_rfl
 sizeByte := by kernel_rfl
 neB5 := by decide }
open Go.RowKit in
theorem Tryz.strings_Join_none (a : Option Addr) (c : Nat) (sep : ByteArray) (w : World) :
  Calls Tryz.prog 80 #[.slice a 0 c, .string sep] w fun e w' => e = .returned (.string ⟨#[]⟩) ∧ w' = w := Any.strings_Join_none Tryz.lays156 Tryz.Builder_Extra_156 a c sep w
open Go.RowKit in
theorem Tryz.strings_Join (bk o c : Nat) (xs : List ByteArray) (sep : ByteArray) (w : World) (hcells : ∀ (j : Nat) x, xs[j]? = some x → w.cell? ⟨bk, o + j, none⟩ = some (.string x)) (hbk : bk < w.heap.size) (hN : xs.length ≤ 140737488355328) (hcap : xs.length ≤ c) (hlen : (Lib.join (xs.map (·.data.toList)) sep.data.toList).length ≤ 140737488355328) :
  Calls Tryz.prog 80 #[.slice (some ⟨bk, o, none⟩) xs.length c, .string sep] w fun e w' => e = .returned (.string ⟨(Lib.join (xs.map (·.data.toList)) sep.data.toList).toArray⟩) ∧ Below w.heap.size w w' := Any.strings_Join Tryz.lays156 Tryz.Builder_Extra_156 bk o c xs sep w hcells hbk hN hcap hlen
def Tryz.laysM171_ren : Go.Shelf.Ren := ⟨fun | 171 => 46 | 243 => 79 | 246 => 100 | 283 => 124 | 284 => 125 | 285 => 126 | 286 => 127 | 129 => 147 | 317 => 146 | 318 => 148 | 319 => 149 | 320 => 150 | 337 => 160 | 338 => 161 | n => n, fun | 3 => 3 | 9 => 9 | 2 => 2 | 4 => 4 | 171 => 160 | 0 => 0 | 53 => 161 | 37 => 141 | 5 => 5 | 173 => 164 | 212 => 176 | 51 => 177 | 20 => 20 | 213 => 178 | 46 => 179 | 232 => 195 | 233 => 196 | n => n, fun | 17 => 0 | 18 => 2 | 19 => 3 | n => n⟩
theorem Tryz.laysM171 : Go.Proofs.LaysM.n171 Tryz.prog Tryz.laysM171_ren := {
 mixed := by kernel_rfl
 f129 := Tryz.func147.trans (congrArg some (by kernel_rfl))
 f171 := Tryz.func46.trans (congrArg some (by kernel_rfl))
 f243 := Tryz.func79.trans (congrArg some (by kernel_rfl))
 f246 := Tryz.func100.trans (congrArg some (by kernel_rfl))
 f283 := Tryz.func124.trans (congrArg some (by kernel_rfl))
 f284 := Tryz.func125.trans (congrArg some (by kernel_rfl))
 f285 := Tryz.func126.trans (congrArg some (by kernel_rfl))
 f286 := Tryz.func127.trans (congrArg some (by kernel_rfl))
 f317 := Tryz.func146.trans (congrArg some (by kernel_rfl))
 f318 := Tryz.func148.trans (congrArg some (by kernel_rfl))
 f319 := Tryz.func149.trans (congrArg some (by kernel_rfl))
 f320 := Tryz.func150.trans (congrArg some (by kernel_rfl))
 f337 := Tryz.func160.trans (congrArg some (by kernel_rfl))
 f338 := Tryz.func161.trans (congrArg some (by kernel_rfl))
 t0 := Tryz.underlying0
 a0 := Tryz.isAgg0
 z0 := Tryz.sizeOf0
 v0 := Tryz.zeroValue0
 t2 := Tryz.underlying2
 a2 := Tryz.isAgg2
 z2 := Tryz.sizeOf2
 v2 := Tryz.zeroValue2
 t3 := Tryz.underlying3
 a3 := Tryz.isAgg3
 z3 := Tryz.sizeOf3
 v3 := Tryz.zeroValue3
 t4 := Tryz.underlying4
 a4 := Tryz.isAgg4
 z4 := Tryz.sizeOf4
 v4 := Tryz.zeroValue4
 t5 := Tryz.underlying5
 a5 := Tryz.isAgg5
 z5 := Tryz.sizeOf5
 v5 := Tryz.zeroValue5
 t9 := Tryz.underlying9
 a9 := Tryz.isAgg9
 z9 := Tryz.sizeOf9
 v9 := Tryz.zeroValue9
 t20 := Tryz.underlying20
 a20 := Tryz.isAgg20
 z20 := Tryz.sizeOf20
 v20 := Tryz.zeroValue20
 t37 := Tryz.underlying141
 a37 := Tryz.isAgg141
 z37 := Tryz.sizeOf141
 v37 := Tryz.zeroValue141
 t46 := Tryz.underlying179
 a46 := Tryz.isAgg179
 z46 := Tryz.sizeOf179
 v46 := Tryz.zeroValue179
 t51 := Tryz.underlying177
 a51 := Tryz.isAgg177
 z51 := Tryz.sizeOf177
 v51 := Tryz.zeroValue177
 t53 := Tryz.underlying161
 a53 := Tryz.isAgg161
 z53 := Tryz.sizeOf161
 v53 := Tryz.zeroValue161
 t171 := Tryz.underlying160
 a171 := Tryz.isAgg160
 z171 := Tryz.sizeOf160
 v171 := Tryz.zeroValue160
 t173 := Tryz.underlying164
 a173 := Tryz.isAgg164
 z173 := Tryz.sizeOf164
 v173 := Tryz.zeroValue164
 t212 := Tryz.underlying176
 a212 := Tryz.isAgg176
 z212 := Tryz.sizeOf176
 v212 := Tryz.zeroValue176
 t213 := Tryz.underlying178
 a213 := Tryz.isAgg178
 z213 := Tryz.sizeOf178
 t232 := Tryz.underlying195
 a232 := Tryz.isAgg195
 z232 := Tryz.sizeOf195
 v232 := Tryz.zeroValue195
 t233 := Tryz.underlying196
 a233 := Tryz.isAgg196
 z233 := Tryz.sizeOf196
 v233 := Tryz.zeroValue196
 g17 := by kernel_rfl
 g18 := by kernel_rfl
 g19 := by kernel_rfl
 i0 := by kernel_rfl
 i2 := by kernel_rfl
 i3 := by kernel_rfl
 i4 := by kernel_rfl
 i5 := by kernel_rfl
 i9 := by kernel_rfl
 i20 := by kernel_rfl
 i37 := by kernel_rfl
 i46 := by kernel_rfl
 i51 := by kernel_rfl
 i53 := by kernel_rfl
 i171 := by kernel_rfl
 i173 := by kernel_rfl
 i212 := by kernel_rfl
 i232 := by kernel_rfl
 i233 := by kernel_rfl
 m17 := by kernel_rfl
 m18 := by kernel_rfl
 m19 := by kernel_rfl }
open Go.RowKit Go.Sort Go.Lib in
theorem Tryz.strconv_Itoa (n : Int) (h0 : -9223372036854775808 ≤ n) (h1 : n ≤ 9223372036854775807) (w : World) (htab : Lib.TabIs Tryz.prog w "internal/strconv.uint64pow10" .u64 Lib.pow10Tab) :
  Calls Tryz.prog 46 #[.int .i64 n] w fun e w' => e = .returned (.string ⟨(Lib.itoa n).toArray⟩) ∧ ∃ k os, w' = grow (w.drewN k) os := Any.strconv_Itoa Tryz.laysM171 n h0 h1 w htab
end Go.Proofs
namespace Go.Proofs.Ythkgcakpjknlbaa
open Go Go.Eng
set_option linter.unusedSimpArgs false
set_option linter.unusedVariables false
set_option maxRecDepth 4000
def TabU (u : View) : Prop := ∃ T fr, u 0 = some (.cells ((Lib.pow10Tab).map (Value.int .u64)).toArray T fr)
theorem TabU.mono {u u' : View} (h : TabU u) (hu : VLe u u') : TabU u' := let ⟨T, fr, h1⟩ := h; ⟨T, fr, hu _ _ h1⟩
theorem gTab : Tryz.prog.globalNamed "internal/strconv.uint64pow10" = some 0 := by kernel_rfl
theorem tabIs_of {u : View} {w : World} (h : TabU u) (hA : Agree u w) : Lib.TabIs Tryz.prog w "internal/strconv.uint64pow10" .u64 Lib.pow10Tab := by
 obtain ⟨T, fr, h1⟩ := h
 have := hA _ _ h1
 unfold Lib.TabIs World.var?
 rw [gTab]
 simp [this]
abbrev dec (n : Nat) : Bs := Lib.decDigits n
theorem dec_small {n : Nat} (h : n < 10) : dec n = [UInt8.ofNat (48 + n)] := by unfold dec; rw [Lib.decDigits, dif_pos h]
theorem dec_big {n : Nat} (h : ¬ n < 10) : dec n = dec (n / 10) ++ [UInt8.ofNat (48 + n % 10)] := by unfold dec; rw [Lib.decDigits, dif_neg h]
theorem grow_below (w : World) (k : Nat) (os : Array Obj) : RowKit.Below w.heap.size w (Sort.grow (w.drewN k) os) := by
 refine ⟨rfl, rfl, rfl, by simp [Sort.grow, World.drewN], fun i hi => ?_⟩
 simp [Sort.grow, World.drewN, Array.getElem?_append, hi]
theorem itoa_fn (n : Nat) (hn : n ≤ 9223372036854775807) (u : View) (ht : TabU u) : FnP Tryz.prog 46 [.int .i64 n] u fun v _ => v = str (dec n) := by
 refine FnP.of_calls fun w hA => (Tryz.strconv_Itoa n (by omega) (by omega) w (tabIs_of ht hA)).mono ?_
 rintro e w' ⟨rfl, k, os, rfl⟩
 refine ⟨_, rfl, ?_, grow_below w k os⟩
 simp [Lib.itoa, str, dec]
theorem strS_of {u : View} {ad : Option Addr} {cap n : Nat} {xs : List Bs} (hn : n = xs.length) (h : SlC u ad n cap 1 (strsC xs)) : StrS u (.slice ad n cap) xs := by
 subst hn
 exact ⟨ad, cap, rfl, h⟩
def noteStep (D : List Bs) (out : List Bs) : Inl → List Bs
 | .mk k t _ _ _ _ _ _ => if k = 12 ∧ t ∈ D ∧ t ∉ out then out ++ [t] else out
def notesIn (D : List Bs) (l : List Inl) : List Bs := l.foldl (noteStep D) []
def notesOf (bs : List Blk) : List Bs := notesIn (noteNames (listB bs)) (inls (listB bs))
theorem notesIn_take (D : List Bs) {xs : List Inl} {i : Nat} {x : Inl} (h : xs[i]? = some x) : notesIn D (xs.take (i + 1)) = noteStep D (notesIn D (xs.take i)) x := by
 obtain ⟨hlt, rfl⟩ := List.getElem?_eq_some_iff.1 h
 rw [List.take_succ_eq_append_getElem hlt]
 simp only [notesIn, List.foldl_append, List.foldl_cons, List.foldl_nil]
theorem noteStep_len (D out : List Bs) (x : Inl) : (noteStep D out x).length ≤ out.length + 1 := by
 cases x
 simp only [noteStep]
 split <;> simp
theorem notesIn_len (D : List Bs) (xs : List Inl) : (notesIn D xs).length ≤ xs.length := by
 have key : ∀ (xs : List Inl) (out : List Bs), (xs.foldl (noteStep D) out).length ≤ out.length + xs.length := by
  intro xs
  induction xs with
  | nil => intro out; simp
  | cons x xs ih =>
   intro out
   have := ih (noteStep D out x)
   have := noteStep_len D out x
   simp only [List.foldl_cons, List.length_cons]
   omega
 have := key xs []
 simpa [notesIn] using this
def aft : List Nat → List Nat → Bool
 | [], _ => false
 | _ :: _, [] => true
 | x :: xs, y :: ys => if x = y then aft xs ys else decide (y < x)
def run : Bs → Nat → Nat → List Nat → List Nat
 | [], n, dg, out => if dg = 0 ∨ 6 < dg then [] else out ++ [n]
 | c :: s, n, dg, out =>
  if c.toNat = 46 then (if dg = 0 ∨ 6 < dg then [] else run s 0 0 (out ++ [n]))
  else if c.toNat < 48 ∨ 57 < c.toNat then []
  else if 6 < dg + 1 then [] else run s (10 * n + (c.toNat - 48)) (dg + 1) out
theorem wrap_u8 {e : Int} (h : 0 ≤ e ∧ e ≤ 255) : IntKind.u8.wrap e = e := by
 have h1 : IntKind.u8.wrap e = e % 2 ^ 8 := by simp [IntKind.wrap, IntKind.signed, IntKind.bits]
 rw [h1]
 omega
def attr0 : DAttr := ⟨[], [], []⟩
theorem attrOk0 : AttrOk attr0 := ⟨by decide, ⟨by decide, by simp [attr0]⟩, ⟨by decide, by simp [attr0]⟩⟩
theorem nilSl (u : View) (sz : Nat) : IsSl u (.slice none 0 0) 0 sz [] := ⟨none, 0, rfl, by simp, by decide, by decide, by simp⟩
theorem nilStr (u : View) : StrS u (.slice none 0 0) [] := nilSl u 1
theorem nilPr (u : View) : PrS u (.slice none 0 0) [] := nilSl u 2
theorem nilCi (u : View) : CiS u (.slice none 0 0) [] := nilSl u 4
theorem nilInl (u : View) : InlS u (.slice none 0 0) [] := ⟨[], nilSl u 10, InlsC.nil⟩
theorem nilBlk (u : View) : BlkS u (.slice none 0 0) [] := ⟨[], nilSl u 11, BlksC.nil⟩
theorem intOk_of {k : Int} (h : -1000 ≤ k ∧ k ≤ 1000) : IntOk k := by unfold IntOk; omega
theorem dec_len10 (k : Nat) : ∀ n, n < 10 ^ (k + 1) → (dec n).length ≤ k + 1 := by
 induction k with
 | zero => intro n h; rw [dec_small (by simpa using h)]; simp
 | succ k ih =>
  intro n h
  by_cases h9 : n < 10
  ·
   rw [dec_small h9]; simp
  ·
   rw [dec_big h9]
   have := ih (n / 10) (by rw [Nat.pow_succ] at h; omega)
   simp only [List.length_append, List.length_cons, List.length_nil]; omega
def dots (cs : List Nat) : Bs := Lib.join (cs.map dec) [46]
theorem dots_nil : dots [] = [] := rfl
theorem dots_one (x : Nat) : dots [x] = dec x := by simp [dots, Lib.join, List.intercalate, List.intersperse]
theorem dots_cons (x y : Nat) (cs : List Nat) : dots (x :: y :: cs) = dec x ++ [46] ++ dots (y :: cs) := by simp [dots, Lib.join, List.intercalate, List.intersperse]
theorem dots_len : ∀ (cs : List Nat) (k : Nat), (∀ c ∈ cs, (dec c).length ≤ k) → (dots cs).length ≤ cs.length * (k + 1)
 | [], k, _ => by simp [dots_nil]
 | [x], k, h => by have := h x (by simp); rw [dots_one]; simp; omega
 | x :: y :: cs, k, h => by
  have := h x (by simp)
  have := dots_len (y :: cs) k (fun c hc => h c (by simp [hc]))
  rw [dots_cons]
  simp only [List.length_append, List.length_cons, List.length_nil] at this ⊢
  rw [Nat.add_mul _ 1, Nat.one_mul]; omega
theorem join_fn (v : Value) (xs : List Bs) (sep : Bs) (u : View) (hx : StrS u v xs) (hn : xs.length ≤ 1000000) (hl : (Lib.join xs sep).length ≤ 1000000) :
  FnP Tryz.prog 80 [v, str sep] u fun r _ => r = str (Lib.join xs sep) := by
 obtain ⟨ad, cap, rfl, h1⟩ := hx
 refine FnP.of_calls fun w hA => ?_
 have hlen := h1.1
 by_cases h0 : xs.length = 0
 ·
  obtain rfl := List.eq_nil_of_length_eq_zero h0
  refine (Tryz.strings_Join_none ad cap ⟨sep.toArray⟩ w).mono ?_
  rintro e w' ⟨rfl, rfl⟩
  exact ⟨_, rfl, rfl, RowKit.Below.refl _ _⟩
 ·
  obtain ⟨b, off, c, T, fr, rfl, hub, hcut⟩ := h1.2.2.2 h0
  have hb := hA _ _ hub
  have e1 : (xs.map fun x : Bs => (⟨x.toArray⟩ : ByteArray)).map (·.data.toList) = xs := by simp [Function.comp_def]
  have := Tryz.strings_Join b off cap (xs.map fun x : Bs => (⟨x.toArray⟩ : ByteArray)) ⟨sep.toArray⟩ w ?_ ?_ (by simp; omega) (by simpa using h1.2.1) (by rw [e1]; simpa using (by omega : (Lib.join xs sep).length ≤ 140737488355328))
  ·
   rw [List.length_map, e1] at this
   refine this.mono ?_
   rintro e w' ⟨rfl, hbel⟩
   exact ⟨_, rfl, rfl, hbel⟩
  ·
   intro j x hj
   have hj2 : (cut c.toList off (xs.length * 1))[j]? = some (Value.string x) := by
    rw [hcut]
    simp only [List.getElem?_map, Option.map_eq_some_iff] at hj
    obtain ⟨y, hy, rfl⟩ := hj
    simp [strsC, hy, str]
   have hlt : j < xs.length * 1 := by
    have := (List.getElem?_eq_some_iff.1 hj).1
    simpa using this
   have := getElem?_cut rfl hj2
   simp only [World.cell?, hb]
   simpa using this
  ·
   exact (Array.getElem?_eq_some_iff.1 hb).1
abbrev figS : Bs := [102, 105, 103, 117, 114, 101]
abbrev tabS : Bs := [116, 97, 98, 108, 101]
abbrev equS : Bs := [101, 113, 117, 97, 116, 105, 111, 110]
abbrev secS : Bs := [115, 101, 99, 116, 105, 111, 110]
abbrev notS : Bs := [110, 111, 116, 101]
def kindN (k : Int) (inf id : Bs) : Nat := if k = 13 ∧ inf = figS then 1 else if k = 13 ∧ inf = tabS then 2 else if k = 4 ∧ id ≠ [] then 3 else 0
def firstPara : List Blk → List Inl
 | [] => []
 | .mk k _ _ _ _ _ _ line _ :: bs => if k = 1 then line else firstPara bs
def capOf (bs : List Blk) : List Inl := firstPara (bs.drop 1)
theorem firstPara_drop {bs : List Blk} {i : Nat} {k lv : Int} {inf t d ti : Bs} {a : DAttr} {line : List Inl} {kids : List Blk} (h : bs[i]? = some (.mk k lv inf t d ti a line kids)) : firstPara (bs.drop i) = if k = 1 then line else firstPara (bs.drop (i + 1)) := by
 obtain ⟨h1, h2⟩ := List.getElem?_eq_some_iff.1 h
 rw [List.drop_eq_getElem_cons h1, h2, firstPara]
def capIf (k : Int) (kids : List Blk) : List Inl := if k = 13 then capOf kids else []
def findN (id : Bs) (l : List DNum) : Option DNum := l.find? fun x => decide (x.id = id ∧ id ≠ [])
def num0 : DNum := ⟨[], [], [], []⟩
theorem findN_drop {id : Bs} {l : List DNum} {i : Nat} {x : DNum} (h : l[i]? = some x) : findN id (l.drop i) = if x.id = id ∧ id ≠ [] then some x else findN id (l.drop (i + 1)) := by
 obtain ⟨h1, rfl⟩ := List.getElem?_eq_some_iff.1 h
 rw [List.drop_eq_getElem_cons h1, findN, List.find?_cons]
 by_cases h : (l[i]).id = id ∧ id ≠ []
 ·
  simp [h]
 ·
  rw [if_neg h, decide_eq_false h]; rfl
theorem num0_C (u : View) : NumC u num0 [str [], str [], str [], .slice none 0 0] := ⟨_, rfl, nilInl u⟩
def arr (n : Nat) (f : Nat → Nat) : List Value := (List.range n).map fun j => .int .i64 (f j : Nat)
theorem arr_len (n : Nat) (f : Nat → Nat) : (arr n f).length = n := by simp [arr]
theorem arr_congr {n : Nat} {f g : Nat → Nat} (h : ∀ j, j < n → f j = g j) : arr n f = arr n g := List.map_congr_left fun j hj => by rw [h j (List.mem_range.1 hj)]
def setF (f : Nat → Nat) (i v : Nat) : Nat → Nat := fun j => if j = i then v else f j
theorem cut_arr {n i o : Nat} {f : Nat → Nat} (h : i < n) (ho : o = i) : cut (arr n f) o 1 = [.int .i64 (f i : Nat)] := by
 subst ho
 unfold cut arr
 rw [List.drop_eq_getElem_cons (by simpa using h)]
 simp
theorem setAt_set : ∀ (cs : List Value) (i : Nat) (x : Value), setAt cs i [x] = cs.set i x
 | [], i, x => by cases i <;> rfl
 | c :: cs, 0, x => by cases cs <;> rfl
 | c :: cs, i + 1, x => by simp only [setAt, setAt_set cs i x, List.set_cons_succ]
theorem set_arr {n i o v : Nat} {f : Nat → Nat} (h : i < n) (ho : o = i) : setAt (arr n f) o [.int .i64 (v : Nat)] = arr n (setF f i v) := by
 subst ho
 rw [setAt_set]
 refine List.ext_getElem? fun j => ?_
 unfold arr
 simp only [List.getElem?_set, List.getElem?_map, List.length_map, List.length_range]
 by_cases hj : j < n
 ·
  rw [List.getElem?_range hj]
  by_cases e : o = j
  ·
   subst e; simp [setF, hj]
  ·
   simp [setF, e, show ¬ j = o from fun h => e h.symm]
 ·
  rw [List.getElem?_eq_none (by simpa using hj), if_neg (by omega)]; rfl
def ctrF (f : Nat → Nat) (l : Nat) : Nat → Nat := fun j => if j = 0 then f j else if j < l then max (f j) 1 else if j = l then f j + 1 else 0
def valF (f : Nat → Nat) (l : Nat) : Bs := dots ((List.range l).map fun j => f (j + 1))
theorem valF_len {f : Nat → Nat} (hf : ∀ j, f j ≤ 100000) (l : Nat) : (valF f l).length ≤ l * 7 := by
 have := dots_len ((List.range l).map fun j => f (j + 1)) 6 (fun c hc => by
  obtain ⟨j, _, rfl⟩ := List.mem_map.1 hc
  exact dec_len10 5 _ (by have := hf (j + 1); omega))
 simpa [valF] using this
structure Cs where
 f : Nat → Nat
 g : Nat → Nat
 out : List DNum
def clampL (lv : Int) : Nat := if lv < 1 then 1 else if 6 < lv then 6 else lv.toNat
theorem clampL_le (lv : Int) : 1 ≤ clampL lv ∧ clampL lv ≤ 6 := by
 unfold clampL
 by_cases h : lv < 1
 ·
  rw [if_pos h]; omega
 ·
  rw [if_neg h]
  by_cases h6 : 6 < lv
  ·
   rw [if_pos h6]; omega
  ·
   rw [if_neg h6]; omega
def kindS (n : Nat) : Bs := if n = 1 then figS else if n = 2 then tabS else equS
def headStep (free : Bool) (k lv : Int) (a : DAttr) (line : List Inl) (x : Cs) : Cs :=
 if k = 2 ∧ free = true then ⟨ctrF x.f (clampL lv), x.g, x.out ++ [⟨a.id, secS, valF (ctrF x.f (clampL lv)) (clampL lv), line⟩]⟩ else x
def kindStep (k : Int) (inf : Bs) (a : DAttr) (kids : List Blk) (x : Cs) : Cs :=
 if 0 < kindN k inf a.id then ⟨x.f, setF x.g (kindN k inf a.id) (x.g (kindN k inf a.id) + 1), x.out ++ [⟨a.id, kindS (kindN k inf a.id), dec (x.g (kindN k inf a.id) + 1), capIf k kids⟩]⟩ else x
def kidsFree (free : Bool) (k : Int) : Bool := decide (free = true ∧ k = 13)
mutual
def numb1 (free : Bool) (x : Cs) : Blk → Cs
 | .mk k lv inf t d ti a line kids => numbB (kidsFree free k) (kindStep k inf a kids (headStep free k lv a line x)) kids
def numbB (free : Bool) (x : Cs) : List Blk → Cs
 | [] => x
 | b :: bs => numbB free (numb1 free x b) bs
end
theorem numbB_append (free : Bool) : ∀ (xs ys : List Blk) (x : Cs), numbB free x (xs ++ ys) = numbB free (numbB free x xs) ys
 | [], ys, x => by simp [numbB]
 | b :: xs, ys, x => by rw [List.cons_append]; simp only [numbB, numbB_append free xs ys]
theorem numbB_take {free : Bool} {x : Cs} {bs : List Blk} {i : Nat} {b : Blk} (h : bs[i]? = some b) : numbB free x (bs.take (i + 1)) = numb1 free (numbB free x (bs.take i)) b := by
 obtain ⟨hlt, rfl⟩ := List.getElem?_eq_some_iff.1 h
 rw [List.take_succ_eq_append_getElem hlt, numbB_append]
 simp [numbB]
def CsLe (B : Nat) (x : Cs) : Prop := (∀ j, x.f j ≤ B) ∧ (∀ j, x.g j ≤ B) ∧ x.out.length ≤ 2 * B
theorem CsLe.mono {B C : Nat} {x : Cs} (h : CsLe B x) (hb : B ≤ C) : CsLe C x := ⟨fun j => Nat.le_trans (h.1 j) hb, fun j => Nat.le_trans (h.2.1 j) hb, by have := h.2.2; omega⟩
theorem headStep_le {B : Nat} {free : Bool} {k lv : Int} {a : DAttr} {line : List Inl} {x : Cs} (h : CsLe B x) : CsLe (B + 1) (headStep free k lv a line x) ∧ (headStep free k lv a line x).out.length ≤ 2 * B + 1 := by
 unfold headStep
 split
 ·
  refine ⟨⟨fun j => ?_, fun j => Nat.le_trans (h.2.1 j) (by omega), ?_⟩, ?_⟩
  ·
   have := h.1 j
   show ctrF x.f (clampL lv) j ≤ B + 1
   unfold ctrF
   split
   ·
    omega
   ·
    split
    ·
     omega
    ·
     split <;> omega
  ·
   have := h.2.2; simp; omega
  ·
   have := h.2.2; simp; omega
 ·
  exact ⟨h.mono (by omega), by have := h.2.2; omega⟩
theorem headStep_g {free : Bool} {k lv : Int} {a : DAttr} {line : List Inl} {x : Cs} : (headStep free k lv a line x).g = x.g := by
 unfold headStep; split <;> rfl
theorem kindStep_le {B : Nat} {k : Int} {inf : Bs} {a : DAttr} {kids : List Blk} {x : Cs} (hf : ∀ j, x.f j ≤ B + 1) (hg : ∀ j, x.g j ≤ B) (ho : x.out.length ≤ 2 * B + 1) : CsLe (B + 1) (kindStep k inf a kids x) := by
 unfold kindStep
 split
 ·
  refine ⟨hf, fun j => ?_, by simp; omega⟩
  have h1 := hg j
  have h2 := hg (kindN k inf a.id)
  show setF _ _ _ j ≤ B + 1
  unfold setF
  split <;> omega
 ·
  exact ⟨hf, fun j => Nat.le_trans (hg j) (by omega), by omega⟩
theorem step_le {B : Nat} {free : Bool} {k lv : Int} {inf : Bs} {a : DAttr} {line : List Inl} {kids : List Blk} {x : Cs} (h : CsLe B x) : CsLe (B + 1) (kindStep k inf a kids (headStep free k lv a line x)) := by
 obtain ⟨h1, h2⟩ := headStep_le (free := free) (k := k) (lv := lv) (a := a) (line := line) h
 exact kindStep_le h1.1 (by rw [headStep_g]; exact h.2.1) h2
mutual
theorem numb1_le {free : Bool} : ∀ (b : Blk) (B : Nat) (x : Cs), CsLe B x → CsLe (B + szb b) (numb1 free x b)
 | .mk k lv inf t d ti a line kids, B, x, h => by
  simp only [numb1, szb]
  exact (numbB_le kids (B + 1) _ (step_le h)).mono (by omega)
theorem numbB_le {free : Bool} : ∀ (bs : List Blk) (B : Nat) (x : Cs), CsLe B x → CsLe (B + szB bs) (numbB free x bs)
 | [], B, x, h => by simpa [numbB, szB] using h
 | b :: bs, B, x, h => by
  simp only [numbB, szB]
  exact (numbB_le bs _ _ (numb1_le b B x h)).mono (by omega)
end
theorem _root_.Go.Eng.NumsC.snoc {u : View} {xs : List DNum} {cs c : List Value} {x : DNum} (h : NumsC u xs cs) (k : NumC u x c) : NumsC u (xs ++ [x]) (cs ++ c) := h.append (NumsC.one k)
theorem szB_take_get {bs : List Blk} {i : Nat} {b : Blk} (h : bs[i]? = some b) : szB (bs.take i) + szb b ≤ szB bs := by
 obtain ⟨hlt, rfl⟩ := List.getElem?_eq_some_iff.1 h
 have h1 := szB_take_le bs (i + 1)
 rw [List.take_succ_eq_append_getElem hlt, szB_append] at h1
 simp only [szB] at h1
 omega
theorem kindN_le (k : Int) (inf id : Bs) : kindN k inf id ≤ 3 := by
 unfold kindN
 split
 ·
  omega
 ·
  split
  ·
   omega
  ·
   split <;> omega
theorem _root_.Go.Eng.InlS.one {u : View} {v : Value} {l : List Inl} (h : InlS u v l) : Value.oneCell' v = true := by
 obtain ⟨cs, h, _⟩ := h
 exact IsSl.one h
set_option linter.unusedSimpArgs false
set_option linter.unusedVariables false
set_option maxRecDepth 4000
def cs0 : Cs := ⟨fun _ => 0, fun _ => 0, []⟩
def noteNums (l : List Bs) : List DNum := (List.range l.length).map fun i => ⟨l.getD i [], notS, dec (i + 1), []⟩
def noteNumsTo (l : List Bs) (i : Nat) : List DNum := (List.range i).map fun i => ⟨l.getD i [], notS, dec (i + 1), []⟩
theorem noteNumsTo_succ (l : List Bs) (i : Nat) : noteNumsTo l (i + 1) = noteNumsTo l i ++ [⟨l.getD i [], notS, dec (i + 1), []⟩] := by simp [noteNumsTo, List.range_succ]
def numsOf (bs : List Blk) : List DNum := (numbB true cs0 bs).out ++ noteNums (notesOf bs)
theorem cs0_le : CsLe 0 cs0 := ⟨fun _ => Nat.le_refl _, fun _ => Nat.le_refl _, Nat.le_refl _⟩
theorem notesOf_len (bs : List Blk) : (notesOf bs).length ≤ szB bs := by
 have h1 := notesIn_len (noteNames (listB bs)) (inls (listB bs))
 have h2 := inls_len (listB bs)
 have h3 := szL_listB bs
 unfold notesOf
 omega
theorem cloneStr_fn (v : Value) (xs : List Bs) (hx : xs.length ≤ 1000000) (u : View) (ha : StrS u v xs) : FnP Tryz.prog 108 [v] u fun r u' => StrS u' r xs := by
 obtain ⟨ad, cap, rfl, h1⟩ := ha
 have oneAll := oneCell_strs xs
 have hlen := h1.1
 refine FnP.intro [.tmp 2] Tryz.func108 rfl rfl rfl ?_
 intro w0 D hw0
 refine Zd (Za (ya rfl rfl (Zf (ρ' := [(0, _)]) ⟨rfl, trivial⟩ ?_)))
 refine Zc (Zd (Zd (Za (ym rfl rfl (Zg (y_eql_nil rfl Tryz.s37 rfl rfl) rfl (Zf (ρ' := [(0, _), (4, _)]) ⟨rfl, rfl, trivial⟩ ?_))))))
 refine Zc ?_
 refine Zo rfl (fun hb1 => ?_) (fun hb1 => ?_)
 ·
  refine Zd (Za (ya rfl rfl (Zf (ρ' := [(2, _)]) ⟨rfl, trivial⟩ ?_)))
  refine Zc (Zw (Zj (Zbe (.tmp rfl) ?_)))
  have h := hb1
  have h0 : xs.length = 0 := by
   cases Nat.eq_zero_or_pos xs.length with
   | inl h => exact h
   | inr hp => obtain ⟨b, off, c, T, fr, rfl, _⟩ := h1.2.2.2 (by omega); cases h
  obtain rfl := List.eq_nil_of_length_eq_zero h0
  exact nilStr _
 ·
  refine Zr (Zc (Zd (Za (Zv rfl rfl ?_))))
  refine Zak trivial Tryz.s37 Tryz.z9 (ps := []) rfl (xs := []) rfl rfl rfl rfl rfl rfl rfl ?_
  refine ym rfl rfl (Zv rfl rfl ?_)
  refine Zcp trivial rfl rfl Tryz.s37 Tryz.z9 rfl rfl rfl rfl rfl (by assumption) (by first | rfl | assumption | simp [Value.oneCell', str]) (by omega) (by omega) (ρ' := []) trivial rfl rfl rfl ?_
  refine Zbo 7 rfl ?_
  intro ad7 cap7 u7 hle7z hsl7
  refine ya rfl rfl (Zf (ρ' := [(2, _)]) ⟨rfl, trivial⟩ ?_)
  refine Zc (Zw (Zbe (.tmp rfl) ?_))
  exact strS_of (by simp) hsl7
theorem clonePr_fn (v : Value) (xs : List (Bs × Bs)) (hx : xs.length ≤ 1000000) (u : View) (ha : PrS u v xs) : FnP Tryz.prog 130 [v] u fun r u' => PrS u' r xs := by
 obtain ⟨ad, cap, rfl, h1⟩ := ha
 have oneAll := oneCell_pairs xs
 refine FnP.intro [.tmp 2] Tryz.func130 rfl rfl rfl ?_
 intro w0 D hw0
 refine Zd (Za (ya rfl rfl (Zf (ρ' := [(0, _)]) ⟨rfl, trivial⟩ ?_)))
 refine Zc (Zd (Zd (Za (ym rfl rfl (Zg (y_eql_nil rfl Tryz.s22 rfl rfl) rfl (Zf (ρ' := [(0, _), (4, _)]) ⟨rfl, rfl, trivial⟩ ?_))))))
 refine Zc ?_
 refine Zo rfl (fun hb1 => ?_) (fun hb1 => ?_)
 ·
  refine Zd (Za (ya rfl rfl (Zf (ρ' := [(2, _)]) ⟨rfl, trivial⟩ ?_)))
  refine Zc (Zw (Zj (Zbe (.tmp rfl) ?_)))
  have h := hb1
  have h0 : xs.length = 0 := by
   cases Nat.eq_zero_or_pos xs.length with
   | inl h => exact h
   | inr hp => obtain ⟨b, off, c, T, fr, rfl, _⟩ := h1.2.2.2 (by omega); cases h
  obtain rfl := List.eq_nil_of_length_eq_zero h0
  exact nilPr _
 ·
  refine Zr (Zc (Zd (Za (Zv rfl rfl ?_))))
  refine Zak trivial Tryz.s22 Tryz.z56 (ps := []) rfl (xs := []) rfl rfl rfl rfl rfl rfl rfl ?_
  refine ym rfl rfl (Zv rfl rfl ?_)
  refine Zcp trivial rfl rfl Tryz.s22 Tryz.z56 rfl rfl rfl rfl rfl (by assumption) (by first | rfl | assumption | simp [Value.oneCell', str]) (by omega) (by omega) (ρ' := []) trivial rfl rfl rfl ?_
  refine Zbo 7 rfl ?_
  intro ad7 cap7 u7 hle7z hsl7
  refine ya rfl rfl (Zf (ρ' := [(2, _)]) ⟨rfl, trivial⟩ ?_)
  refine Zc (Zw (Zbe (.tmp rfl) ?_))
  rw [Nat.zero_add] at hsl7 ⊢
  exact ⟨_, _, rfl, hsl7⟩
theorem cloneCi_fn (v : Value) (xs : List DCite) (hx : xs.length ≤ 1000000) (u : View) (ha : CiS u v xs) : FnP Tryz.prog 109 [v] u fun r u' => CiS u' r xs := by
 obtain ⟨ad, cap, rfl, h1⟩ := ha
 have oneAll := oneCell_cites xs
 refine FnP.intro [.tmp 2] Tryz.func109 rfl rfl rfl ?_
 intro w0 D hw0
 refine Zd (Za (ya rfl rfl (Zf (ρ' := [(0, _)]) ⟨rfl, trivial⟩ ?_)))
 refine Zc (Zd (Zd (Za (ym rfl rfl (Zg (y_eql_nil rfl Tryz.s40 rfl rfl) rfl (Zf (ρ' := [(0, _), (4, _)]) ⟨rfl, rfl, trivial⟩ ?_))))))
 refine Zc ?_
 refine Zo rfl (fun hb1 => ?_) (fun hb1 => ?_)
 ·
  refine Zd (Za (ya rfl rfl (Zf (ρ' := [(2, _)]) ⟨rfl, trivial⟩ ?_)))
  refine Zc (Zw (Zj (Zbe (.tmp rfl) ?_)))
  have h := hb1
  have h0 : xs.length = 0 := by
   cases Nat.eq_zero_or_pos xs.length with
   | inl h => exact h
   | inr hp => obtain ⟨b, off, c, T, fr, rfl, _⟩ := h1.2.2.2 (by omega); cases h
  obtain rfl := List.eq_nil_of_length_eq_zero h0
  exact nilCi _
 ·
  refine Zr (Zc (Zd (Za (Zv rfl rfl ?_))))
  refine Zak trivial Tryz.s40 Tryz.z124 (ps := []) rfl (xs := []) rfl rfl rfl rfl rfl rfl rfl ?_
  refine ym rfl rfl (Zv rfl rfl ?_)
  refine Zcp trivial rfl rfl Tryz.s40 Tryz.z124 rfl rfl rfl rfl rfl (by assumption) (by first | rfl | assumption | simp [Value.oneCell', str]) (by omega) (by omega) (ρ' := []) trivial rfl rfl rfl ?_
  refine Zbo 7 rfl ?_
  intro ad7 cap7 u7 hle7z hsl7
  refine ya rfl rfl (Zf (ρ' := [(2, _)]) ⟨rfl, trivial⟩ ?_)
  refine Zc (Zw (Zbe (.tmp rfl) ?_))
  rw [Nat.zero_add] at hsl7 ⊢
  exact ⟨_, _, rfl, hsl7⟩
theorem copyAttr_fn (a : DAttr) (vc vp : Value) (u : View) (hc : a.classes.length ≤ 1000000) (hp : a.pairs.length ≤ 1000000) (h1 : StrS u vc a.classes) (h2 : PrS u vp a.pairs) :
  FnP Tryz.prog 107 [.agg #[str a.id, vc, vp]] u fun r u' => ∃ vc' vp', r = .agg #[str a.id, vc', vp'] ∧ StrS u' vc' a.classes ∧ PrS u' vp' a.pairs := by
 obtain ⟨ad, cap, rfl, h1⟩ := h1
 obtain ⟨ad2, cap2, rfl, h2⟩ := h2
 refine FnP.intro [.cell 2 39] Tryz.func107 rfl rfl rfl ?_
 intro w0 D hw0
 refine Zd (Za (Zv rfl rfl ?_))
 refine Zbx trivial rfl (cs := [_, _, _]) rfl rfl rfl rfl ?_
 refine Zv rfl rfl ?_
 refine Zas trivial Tryz.z39 rfl rfl rfl ?_
 refine Zf (ρ' := [(1, _), (2, _)]) ⟨rfl, rfl, trivial⟩ ?_
 refine Zc (Zd (Za (Zg (Zh rfl Tryz.f39' rfl (by decide) rfl) rfl (Zg (Zi rfl Tryz.k37 rfl rfl rfl (vs := [_]) rfl rfl rfl) rfl (Zv rfl rfl ?_)))))
 refine Zbm (caps := []) trivial rfl rfl Tryz.c108 rfl (FnP.mono (cloneStr_fn _ a.classes hc u ⟨_, _, rfl, h1⟩) ?_)
 rintro v uA hle0 ⟨ad3, cap3, rfl, h3⟩ hleA
 refine Zg (Zh rfl Tryz.f39' rfl (by decide) rfl) rfl (Zv rfl rfl ?_)
 refine Zm trivial rfl Tryz.k37 rfl rfl rfl (vs := [_]) rfl rfl (by first | rfl | assumption | simp [Value.oneCell', str]) (Nat.le_of_ble_eq_true rfl) rfl ?_
 refine Zf (ρ' := [(1, _), (2, _)]) ⟨rfl, rfl, trivial⟩ ?_
 refine Zc (Zd (Za (Zg (Zh rfl Tryz.f39' rfl (by decide) rfl) rfl (Zg (Zi rfl Tryz.k22 rfl rfl rfl (vs := [_]) rfl rfl rfl) rfl (Zv rfl rfl ?_)))))
 refine Zbm (caps := []) trivial rfl rfl Tryz.c130 rfl (FnP.mono (clonePr_fn _ a.pairs hp uA ⟨_, _, rfl, h2.mono hleA⟩) ?_)
 rintro v uB hle0 ⟨ad4, cap4, rfl, h4⟩ hleB
 refine Zg (Zh rfl Tryz.f39' rfl (by decide) rfl) rfl (Zv rfl rfl ?_)
 refine Zm trivial rfl Tryz.k22 rfl rfl rfl (vs := [_]) rfl rfl (by first | rfl | assumption | simp [Value.oneCell', str]) (Nat.le_of_ble_eq_true rfl) rfl ?_
 refine Zf (ρ' := [(1, _), (2, _)]) ⟨rfl, rfl, trivial⟩ ?_
 refine Zc (Zd (Za (Zg (Zi rfl Tryz.k39 rfl rfl rfl (vs := [_, _, _]) rfl rfl rfl) rfl (Zv rfl rfl ?_))))
 refine Zm trivial rfl Tryz.k39 rfl rfl rfl (vs := [_, _, _]) rfl rfl (by first | rfl | assumption | simp [Value.oneCell', str]) (Nat.le_of_ble_eq_true rfl) rfl ?_
 refine Zf (ρ' := [(2, _)]) ⟨rfl, trivial⟩ ?_
 refine Zc (Zw ?_)
 refine Zbe (.cell rfl rfl Tryz.k39 (cs := _) (vs := [_, _, _]) rfl rfl rfl) ?_
 exact ⟨_, _, rfl, ⟨_, _, rfl, h3.mono hleB⟩, ⟨_, _, rfl, h4⟩⟩
theorem copyLine_fn (n : Nat) : ∀ (v : Value) (xs : List Inl) (u : View), szI xs ≤ n → szI xs ≤ 100000 → smI xs → InlS u v xs →
  FnP Tryz.prog 50 [v] u fun r u' => InlS u' r xs := by
 induction n using Nat.strongRecOn with
 | _ n ih =>
 intro v xs u hsz hbig hsm ha
 have hlx := len_szI xs
 obtain ⟨cs, ⟨ad, cap, rfl, h1⟩, hc1⟩ := ha
 refine FnP.intro [.tmp 2] Tryz.func50 rfl rfl rfl ?_
 intro w0 D hw0
 refine Zd (Za (ya rfl rfl (Zf (ρ' := [(0, _)]) ⟨rfl, trivial⟩ ?_)))
 refine Zc (Zd (Za (ya rfl rfl ?_)))
 refine Zch 3 503 42 10 rfl rfl rfl ?_
 refine Zf (ρ' := [(0, _), (3, _)]) ⟨rfl, rfl, trivial⟩ ?_
 refine Zc (Zd (Zd (Za (ym rfl rfl (Zg (Zaq rfl rfl Tryz.s35 rfl) rfl (ym rfl rfl (Zf (ρ' := [(3, _), (6, _), (7, _), (8, _)]) ⟨rfl, rfl, rfl, rfl, trivial⟩ ?_)))))))
 refine Zc (Zad ?_)
 refine Zbc (fun m ρ σ u' => ∃ i : Nat, i + m = xs.length ∧ VLe u u' ∧ ∃ (acc : List Value), σ = [(503, (none, .row 42 10 i acc))] ∧ ρ = [(3, .s 503), (6, .v (.slice ad xs.length cap)), (7, .v (.int .i64 xs.length)), (8, .v (.int .i64 i))] ∧ (InlsC u' (xs.take i) acc)) (xs.length) ?_ ?_
 ·
  refine ⟨[(3, _), (6, _), (7, _), (8, _)], [(503, _)], ⟨rfl, rfl, rfl, rfl, trivial⟩, ⟨rfl, trivial⟩, 0, by omega, VLe.refl _, [], (by first | rfl | simp), (by first | rfl | (simp only [List.cons.injEq, Prod.mk.injEq, SV.v.injEq, Value.int.injEq, true_and, and_true]; omega) | simp), ?_⟩
  exact InlsC.nil
 ·
  rintro m ρ σ u' ⟨i, hi3, hle3, acc, rfl, rfl, hacc⟩
  refine Zd (Za (Zg (Zbn rfl rfl rfl) rfl (Zf (ρ' := [(3, _), (6, _), (7, _), (8, _), (9, _)]) ⟨rfl, rfl, rfl, rfl, rfl, trivial⟩ ?_)))
  refine Zc (Zd ?_)
  refine Zo rfl (fun hb3 => ?_) (fun hb3 => ?_)
  ·
   refine Zr (Zc (Zd (Zad (Zd ?_))))
   have hlt : i < xs.length := by have := of_decide_eq_true hb3; omega
   have h1 := h1.mono hle3
   obtain ⟨k, t, d, ti, a, args, cites, kids, vc, vp, va, vt, vk, hg, hcut1, s1, s2, s3, s4, s5, hok⟩ := (hc1.mono hle3).at hlt
   have oneAll := ((hc1.mono hle3).get i _ hg).one
   rw [hcut1] at oneAll
   have hsm1 := smI_get hsm hg
   unfold smI1 at hsm1
   obtain ⟨⟨n1, n2, n3, n4, n5, n6, n7, n8⟩, hsmk⟩ := hsm1
   have hszk := szI_kids hg
   have t1 := s1
   have t2 := s2
   have t3 := s3
   have t4 := s4
   obtain ⟨ad1, cap1, rfl, s1⟩ := s1
   obtain ⟨ad2, cap2, rfl, s2⟩ := s2
   obtain ⟨ad3, cap3, rfl, s3⟩ := s3
   obtain ⟨ad4, cap4, rfl, s4⟩ := s4
   refine Za (Zg (Zai rfl Tryz.s35 rfl rfl (by assumption) (by first | rfl | omega) (by omega)) rfl (Zg (Zag rfl Tryz.k42 rfl (by assumption) (by omega) (by assumption) (vs := [_, _, _, _, _, _, _, _, _, _]) rfl rfl rfl rfl) rfl (Zv rfl rfl ?_)))
   refine Zas trivial Tryz.z42 rfl rfl rfl ?_
   refine Zv rfl rfl ?_
   refine Zm trivial rfl Tryz.k42 rfl rfl rfl (vs := [_, _, _, _, _, _, _, _, _, _]) rfl rfl (by first | rfl | assumption | simp [Value.oneCell', str]) (Nat.le_of_ble_eq_true rfl) rfl ?_
   refine Zf (ρ' := [(3, _), (5, _), (6, _), (7, _), (8, _)]) ⟨rfl, rfl, rfl, rfl, rfl, trivial⟩ ?_
   refine Zc (Zd (Za (Zg (Zh rfl Tryz.f42' rfl (by decide) rfl) rfl (Zg (Zh rfl Tryz.f39' rfl (by decide) rfl) rfl (Zg (Zi rfl Tryz.k37 rfl rfl rfl (vs := [_]) rfl rfl rfl) rfl (Zv rfl rfl ?_))))))
   refine Zbs trivial rfl Tryz.s37 Tryz.z9 rfl rfl rfl rfl (by assumption) (oneCell_strs _) (by omega) (by omega) rfl rfl rfl ?_
   refine Zbo 15 rfl ?_
   intro ad15 cap15 u15 hle15z hsl15
   refine Zg (Zh rfl Tryz.f42' rfl (by decide) rfl) rfl (Zg (Zh rfl Tryz.f39' rfl (by decide) rfl) rfl (Zv rfl rfl ?_))
   refine Zm trivial rfl Tryz.k37 rfl rfl rfl (vs := [_]) rfl rfl (by first | rfl | assumption | simp [Value.oneCell', str]) (Nat.le_of_ble_eq_true rfl) rfl ?_
   refine Zf (ρ' := [(3, _), (5, _), (6, _), (7, _), (8, _)]) ⟨rfl, rfl, rfl, rfl, rfl, trivial⟩ ?_
   refine Zc (Zd ?_)
   have s2 := s2.mono hle15z
   refine Za (Zg (Zh rfl Tryz.f42' rfl (by decide) rfl) rfl (Zg (Zh rfl Tryz.f39' rfl (by decide) rfl) rfl (Zg (Zi rfl Tryz.k22 rfl rfl rfl (vs := [_]) rfl rfl rfl) rfl (Zv rfl rfl ?_))))
   refine Zbs trivial rfl Tryz.s22 Tryz.z56 rfl rfl rfl rfl (by assumption) (oneCell_pairs _) (by omega) (by omega) rfl rfl rfl ?_
   refine Zbo 21 rfl ?_
   intro ad21 cap21 u21 hle21z hsl21
   refine Zg (Zh rfl Tryz.f42' rfl (by decide) rfl) rfl (Zg (Zh rfl Tryz.f39' rfl (by decide) rfl) rfl (Zv rfl rfl ?_))
   refine Zm trivial rfl Tryz.k22 rfl rfl rfl (vs := [_]) rfl rfl (by first | rfl | assumption | simp [Value.oneCell', str]) (Nat.le_of_ble_eq_true rfl) rfl ?_
   refine Zf (ρ' := [(3, _), (5, _), (6, _), (7, _), (8, _)]) ⟨rfl, rfl, rfl, rfl, rfl, trivial⟩ ?_
   refine Zc (Zd ?_)
   have s3 := (s3.mono hle15z).mono hle21z
   refine Za (Zg (Zh rfl Tryz.f42' rfl (by decide) rfl) rfl (Zg (Zi rfl Tryz.k37 rfl rfl rfl (vs := [_]) rfl rfl rfl) rfl (Zv rfl rfl ?_)))
   refine Zbs trivial rfl Tryz.s37 Tryz.z9 rfl rfl rfl rfl (by assumption) (oneCell_strs _) (by omega) (by omega) rfl rfl rfl ?_
   refine Zbo 26 rfl ?_
   intro ad26 cap26 u26 hle26z hsl26
   refine Zg (Zh rfl Tryz.f42' rfl (by decide) rfl) rfl (Zv rfl rfl ?_)
   refine Zm trivial rfl Tryz.k37 rfl rfl rfl (vs := [_]) rfl rfl (by first | rfl | assumption | simp [Value.oneCell', str]) (Nat.le_of_ble_eq_true rfl) rfl ?_
   refine Zf (ρ' := [(3, _), (5, _), (6, _), (7, _), (8, _)]) ⟨rfl, rfl, rfl, rfl, rfl, trivial⟩ ?_
   refine Zc (Zd ?_)
   have s4 := ((s4.mono hle15z).mono hle21z).mono hle26z
   refine Za (Zg (Zh rfl Tryz.f42' rfl (by decide) rfl) rfl (Zg (Zi rfl Tryz.k40 rfl rfl rfl (vs := [_]) rfl rfl rfl) rfl (Zv rfl rfl ?_)))
   refine Zbs trivial rfl Tryz.s40 Tryz.z124 rfl rfl rfl rfl (by assumption) (oneCell_cites _) (by omega) (by omega) rfl rfl rfl ?_
   refine Zbo 30 rfl ?_
   intro ad30 cap30 u30 hle30z hsl30
   refine Zg (Zh rfl Tryz.f42' rfl (by decide) rfl) rfl (Zv rfl rfl ?_)
   refine Zm trivial rfl Tryz.k40 rfl rfl rfl (vs := [_]) rfl rfl (by first | rfl | assumption | simp [Value.oneCell', str]) (Nat.le_of_ble_eq_true rfl) rfl ?_
   refine Zf (ρ' := [(3, _), (5, _), (6, _), (7, _), (8, _)]) ⟨rfl, rfl, rfl, rfl, rfl, trivial⟩ ?_
   refine Zc (Zd (Za (Zg (Zh rfl Tryz.f42' rfl (by decide) rfl) rfl (Zg (Zi rfl Tryz.k35 rfl rfl rfl (vs := [_]) rfl rfl rfl) rfl (Zv rfl rfl ?_)))))
   refine Zbm (caps := []) trivial rfl rfl Tryz.c50 rfl (FnP.mono (ih (szI kids) (by omega) vk kids u30 (Nat.le_refl _) (by omega) hsmk ((((s5.mono hle15z).mono hle21z).mono hle26z).mono hle30z)) ?_)
   rintro v uK hle0 ⟨kcs, ⟨kad, kcap, rfl, hk1⟩, hk2⟩ hleK
   refine Zg (Zh rfl Tryz.f42' rfl (by decide) rfl) rfl (Zv rfl rfl ?_)
   refine Zm trivial rfl Tryz.k35 rfl rfl rfl (vs := [_]) rfl rfl (by first | rfl | assumption | simp [Value.oneCell', str]) (Nat.le_of_ble_eq_true rfl) rfl ?_
   refine Zf (ρ' := [(3, _), (5, _), (6, _), (7, _), (8, _)]) ⟨rfl, rfl, rfl, rfl, rfl, trivial⟩ ?_
   refine Zc (Za (ym rfl rfl (Zg (Zi rfl Tryz.k42 rfl rfl rfl (vs := [_, _, _, _, _, _, _, _, _, _]) rfl rfl rfl) rfl (Zv rfl rfl ?_))))
   refine Zak trivial Tryz.s35 Tryz.z42 (ps := [(_, _)]) rfl (xs := [_, _, _, _, _, _, _, _, _, _]) rfl rfl rfl rfl rfl rfl rfl ?_
   refine Zv rfl rfl ?_
   refine Zby trivial rfl rfl Tryz.s35 Tryz.z42 rfl rfl rfl rfl rfl rfl (by first | rfl | assumption | simp [Value.oneCell', str]) (by omega) (by omega) (ρ' := [(6, _), (7, _), (8, _)]) ⟨rfl, rfl, rfl, trivial⟩ rfl rfl rfl ?_
   refine ya rfl rfl ?_
   refine rl_ren 39 503 rfl rfl rfl ?_
   refine Zf (ρ' := [(3, _), (6, _), (7, _), (8, _)]) ⟨rfl, rfl, rfl, rfl, trivial⟩ ?_
   refine Zah (Zc (Za (Zg (Zav rfl rfl rfl (Zs (by omega))) rfl ?_)))
   refine ym rfl rfl (Zf (ρ' := [(3, _), (6, _), (7, _), (8, _)]) ⟨rfl, rfl, rfl, rfl, trivial⟩ ?_)
   refine Zab ?_
   refine ⟨m - 1, [(3, _), (6, _), (7, _), (8, _)], [(503, _)], by omega, ⟨rfl, rfl, rfl, rfl, trivial⟩, ⟨rfl, trivial⟩, i + 1, by omega, (hle3.trans (hle15z.trans (hle21z.trans (hle26z.trans (hle30z.trans hleK))))), _, rfl, (by first | rfl | simp), ?_⟩
   rw [List.take_succ_eq_append_getElem hlt, (List.getElem?_eq_some_iff.1 hg).2]
   refine (hacc.mono (hle15z.trans (hle21z.trans (hle26z.trans (hle30z.trans hleK))))).append (InlsC.one ?_)
   exact InlC.mk' ⟨_, _, rfl, (((hsl15.mono hle21z).mono hle26z).mono hle30z).mono hleK⟩ ⟨_, _, rfl, ((hsl21.mono hle26z).mono hle30z).mono hleK⟩ ⟨_, _, rfl, (hsl26.mono hle30z).mono hleK⟩ ⟨_, _, rfl, hsl30.mono hleK⟩ ⟨kcs, ⟨kad, kcap, rfl, hk1⟩, hk2⟩ hok
  ·
   refine Zax ?_
   refine Zq (Zq ?_)
   refine Zaf ?_
   refine Zc (Zd (Za (ym rfl rfl ?_)))
   refine Zbo 503 rfl ?_
   intro ad503 cap503 u503 hle503z hsl503
   refine ya rfl rfl (Zf (ρ' := [(2, _)]) ⟨rfl, trivial⟩ ?_)
   refine Zc (Zw (Zbe (.tmp rfl) ?_))
   have hge := of_decide_eq_false hb3
   rw [List.take_of_length_le (by omega)] at hacc
   exact inlS_of (by omega) hsl503 (hacc.mono hle503z)
theorem firstPara_sm : ∀ (bs : List Blk), smB bs → smI (firstPara bs) ∧ szI (firstPara bs) ≤ szB bs
 | [], _ => ⟨by unfold firstPara smI; trivial, by unfold firstPara; simp [szI]⟩
 | .mk k lv inf t d ti a line kids :: bs, h => by
  unfold smB at h
  have h1 := h.1
  unfold smB1 at h1
  have ih := firstPara_sm bs h.2
  unfold firstPara
  split
  ·
   exact ⟨h1.2.2.2.2.1, by simp only [szB, szb]; omega⟩
  ·
   exact ⟨ih.1, by simp only [szB]; omega⟩
theorem countCaption_fn (v : Value) (bs : List Blk) (hbig : szB bs ≤ 100000) (hsm : smB bs) (u : View) (ha : BlkS u v bs) : FnP Tryz.prog 51 [v] u fun r u' => InlS u' r (capOf bs) := by
 have hlb := len_szB bs
 obtain ⟨cs, ⟨ad, cap, rfl, h1⟩, hc1⟩ := ha
 refine FnP.intro [.tmp 2] Tryz.func51 rfl rfl rfl ?_
 intro w0 D hw0
 refine Zd (Za (ya rfl rfl (Zf (ρ' := [(0, _)]) ⟨rfl, trivial⟩ ?_)))
 refine Zc (Zd (Zd (Za (ym rfl rfl (Zg (Zaq rfl rfl Tryz.s23 rfl) rfl (ym rfl rfl (Zf (ρ' := [(5, _), (6, _), (7, _)]) ⟨rfl, rfl, rfl, trivial⟩ ?_)))))))
 refine Zc (Zad ?_)
 refine Zbc (fun m ρ σ u' => ∃ i : Nat, i + m = bs.length ∧ VLe u u' ∧ σ = [] ∧ ρ = [(5, .v (.slice ad bs.length cap)), (6, .v (.int .i64 bs.length)), (7, .v (.int .i64 i))] ∧ (u = u' ∧ capOf bs = firstPara (bs.drop (if i = 0 then 1 else i)))) (bs.length) ?_ ?_
 ·
  refine ⟨[(5, _), (6, _), (7, _)], [], ⟨rfl, rfl, rfl, trivial⟩, trivial, 0, by omega, VLe.refl _, (by first | rfl | simp), (by first | rfl | (simp only [List.cons.injEq, Prod.mk.injEq, SV.v.injEq, Value.int.injEq, true_and, and_true]; omega) | simp), ?_⟩
  exact ⟨rfl, rfl⟩
 ·
  rintro m ρ σ u' ⟨i, hi2, hle2, rfl, rfl, ⟨rfl, hinv⟩⟩
  refine Zd (Za (Zg (Zbn rfl rfl rfl) rfl (Zf (ρ' := [(5, _), (6, _), (7, _), (8, _)]) ⟨rfl, rfl, rfl, rfl, trivial⟩ ?_)))
  refine Zc (Zd ?_)
  refine Zo rfl (fun hb2 => ?_) (fun hb2 => ?_)
  ·
   refine Zr (Zc (Zd (Zad (Zd ?_))))
   have hlt := of_decide_eq_true hb2
   obtain ⟨k, lv, inf, t, d, ti, a, line, kids, vc, vp, vl, vk, hg, hcut1, s1, s2, s3, s4, hok⟩ := hc1.at (i := i) (by omega)
   have oneAll := (hc1.get i _ hg).one
   rw [hcut1] at oneAll
   have hst := firstPara_drop hg
   have hsm1 := smB_get hsm hg
   have hsz1 := szB_kids hg
   unfold smB1 at hsm1
   refine Za (ym rfl rfl (Zg (Zai rfl Tryz.s23 rfl rfl (by assumption) (by first | rfl | omega) (by omega)) rfl (Zg (Zag rfl Tryz.k59 rfl (by assumption) (by omega) (by assumption) (vs := [_, _, _, _, _, _, _, _, _, _, _]) rfl rfl rfl rfl) rfl (Zv rfl rfl ?_))))
   refine Zas trivial Tryz.z59 rfl rfl rfl ?_
   refine ya rfl rfl (Zv rfl rfl ?_)
   refine Zm trivial rfl Tryz.k59 rfl rfl rfl (vs := [_, _, _, _, _, _, _, _, _, _, _]) rfl rfl (by first | rfl | assumption | simp [Value.oneCell', str]) (Nat.le_of_ble_eq_true rfl) rfl ?_
   refine Zf (ρ' := [(3, _), (4, _), (5, _), (6, _), (7, _)]) ⟨rfl, rfl, rfl, rfl, rfl, trivial⟩ ?_
   refine Zc (Zd ?_)
   refine Zcj 18 (decide (0 < i ∧ k = 1)) (ρk := [(4, _), (5, _), (6, _), (7, _)]) ⟨rfl, rfl, rfl, rfl, trivial⟩ ?_ ?_
   ·
    refine Za (ym rfl rfl (Zg (Zcn rfl rfl rfl) rfl (ym rfl rfl ?_)))
    rcases Bool.eq_false_or_eq_true (decide ((0 : Int) < i)) with hg4_2 | hg4_2
    ·
     simp only [hg4_2]
     refine Zk rfl rfl (Zg (Zh rfl Tryz.f59' rfl (by decide) rfl) rfl (Zk rfl rfl (Zg (Zi rfl Tryz.k3 rfl rfl rfl (vs := [_]) rfl rfl rfl) rfl (Zk rfl rfl (Zg (Zaw rfl rfl rfl) rfl (Zg (Zl rfl rfl rfl) rfl ?_))))))
     exact Zam rfl ⟨rfl, rfl, rfl, rfl, trivial⟩ (by first | simp_all | (simp_all; omega))
    ·
     simp only [hg4_2]
     iterate 3 refine Zt rfl rfl rfl rfl ?_
     refine Zg (Zn rfl rfl rfl) rfl ?_
     exact Zam rfl ⟨rfl, rfl, rfl, rfl, trivial⟩ (by first | simp_all | (simp_all; omega))
   refine Zc ?_
   refine Zo rfl (fun hb4 => ?_) (fun hb4 => ?_)
   ·
    refine Zd (Za (Zg (Zh rfl Tryz.f59' rfl (by decide) rfl) rfl (Zg (Zi rfl Tryz.k35 rfl rfl rfl (vs := [_]) rfl rfl rfl) rfl (Zv rfl rfl ?_))))
    refine Zbm (caps := []) trivial rfl rfl Tryz.c50 rfl (FnP.mono (copyLine_fn (szI line) vl line u (Nat.le_refl _) (by omega) hsm1.2.2.2.2.1 s3) ?_)
    rintro v u1 hle0 hcp hle1
    refine ya rfl rfl (Zf (ρ' := [(2, _)]) ⟨rfl, trivial⟩ ?_)
    refine Zc (Zw (Zu (Zj (Zj (Zu (Zj (Zbe (.tmp rfl) ?_)))))))
    have h4 := of_decide_eq_true hb4
    rw [if_neg (by omega), hst, if_pos h4.2] at hinv
    rw [hinv]
    exact hcp
   ·
    refine Zr (Zah (Zc (Za (Zg (Zav rfl rfl rfl (Zs (by omega))) rfl ?_))))
    refine ym rfl rfl (Zf (ρ' := [(5, _), (6, _), (7, _)]) ⟨rfl, rfl, rfl, trivial⟩ ?_)
    refine Zab ?_
    refine ⟨m - 1, [(5, _), (6, _), (7, _)], [], by omega, ⟨rfl, rfl, rfl, trivial⟩, trivial, i + 1, by omega, hle2, (by first | rfl | simp), (by first | rfl | (simp only [List.cons.injEq, Prod.mk.injEq, SV.v.injEq, Value.int.injEq, true_and, and_true]; omega) | simp), ?_⟩
    have h4 := of_decide_eq_false hb4
    refine ⟨rfl, ?_⟩
    rw [if_neg (Nat.succ_ne_zero i)]
    by_cases h0 : i = 0
    ·
     subst h0; exact hinv
    ·
     rw [hinv, if_neg h0, hst, if_neg (fun h => h4 ⟨by omega, h⟩)]
  ·
   refine Zax ?_
   refine Zq (Zq ?_)
   refine Zaf ?_
   refine Zc (Zd (Za (ya rfl rfl (Zf (ρ' := [(2, _)]) ⟨rfl, trivial⟩ ?_))))
   refine Zc (Zw (Zbe (.tmp rfl) ?_))
   have hge := of_decide_eq_false hb2
   rw [hinv, List.drop_eq_nil_of_le (by split <;> omega)]
   exact nilInl _
theorem countFind_fn (v : Value) (l : List DNum) (id : Bs) (hl : l.length ≤ 1000000) (hs : ∀ x ∈ l, szI x.line ≤ 100000 ∧ smI x.line) (u : View) (ha : NumS u v l) :
  FnP Tryz.prog 18 [v, str id] u fun r u' => ∃ cs, r = .tuple #[.agg cs.toArray, .bool (findN id l).isSome] ∧ NumC u' ((findN id l).getD num0) cs := by
 obtain ⟨cs, ⟨ad, cap, rfl, h1⟩, hc1⟩ := ha
 refine FnP.intro [.cell 4 50, .tmp 5] Tryz.func18 rfl rfl rfl ?_
 intro w0 D hw0
 refine Zd (Za (Zv rfl rfl ?_))
 refine Zas trivial Tryz.z50 rfl rfl rfl ?_
 refine ya rfl rfl (Zf (ρ' := [(0, _), (1, _), (4, _)]) ⟨rfl, rfl, rfl, trivial⟩ ?_)
 refine Zc (Zd (Zd (Za (ym rfl rfl (Zg (Zba rfl rfl rfl) rfl (Zf (ρ' := [(0, _), (1, _), (4, _), (9, _)]) ⟨rfl, rfl, rfl, rfl, trivial⟩ ?_))))))
 refine Zc ?_
 refine Zo rfl (fun hb1 => ?_) (fun hb1 => ?_)
 ·
  refine Zd (Za (Zg (Zbf rfl Tryz.f50' Tryz.z50 (ps := []) rfl (vs := [_, _, _, _]) rfl) rfl (Zv rfl rfl ?_)))
  refine Zm trivial rfl Tryz.k50 rfl rfl rfl (vs := [_, _, _, _]) rfl rfl (by first | rfl | assumption | simp [Value.oneCell', str]) (Nat.le_of_ble_eq_true rfl) rfl ?_
  refine ya rfl rfl (Zf (ρ' := [(4, _), (5, _)]) ⟨rfl, rfl, trivial⟩ ?_)
  refine Zc (Zw (Zj ?_))
  refine fin2 (.cell rfl rfl Tryz.k50 (cs := _) (vs := [_, _, _, _]) rfl rfl rfl) (.tmp rfl) ?_
  have h1 := of_decide_eq_true hb1
  have : findN id l = none := by unfold findN; rw [List.find?_eq_none]; intro x _; simp [h1]
  rw [this]
  exact ⟨[str [], str [], str [], .slice none 0 0], rfl, num0_C _⟩
 ·
  refine Zr (Zc (Zd (Zd ?_)))
  have hne := of_decide_eq_false hb1
  refine Za (ym rfl rfl (Zg (Zaq rfl rfl Tryz.s47 rfl) rfl (ym rfl rfl (Zf (ρ' := [(1, _), (4, _), (11, _), (12, _), (13, _)]) ⟨rfl, rfl, rfl, rfl, rfl, trivial⟩ ?_))))
  refine Zc (Zad ?_)
  refine Zbc (fun m ρ σ u' => ∃ i : Nat, i + m = l.length ∧ VLe u u' ∧ σ = [(4, (none, .box [str [], str [], str [], .slice none 0 0]))] ∧ ρ = [(1, .v (str id)), (4, .p 4 0), (11, .v (.slice ad l.length cap)), (12, .v (.int .i64 l.length)), (13, .v (.int .i64 i))] ∧ (u = u' ∧ findN id l = findN id (l.drop i))) (l.length) ?_ ?_
  ·
   refine ⟨[(1, _), (4, _), (11, _), (12, _), (13, _)], [(4, _)], ⟨rfl, rfl, rfl, rfl, rfl, trivial⟩, ⟨rfl, trivial⟩, 0, by omega, VLe.refl _, (by first | rfl | simp), (by first | rfl | (simp only [List.cons.injEq, Prod.mk.injEq, SV.v.injEq, Value.int.injEq, true_and, and_true]; omega) | simp), ?_⟩
   exact ⟨rfl, rfl⟩
  ·
   rintro m ρ σ u' ⟨i, hi4, hle4, rfl, rfl, ⟨rfl, hinv⟩⟩
   refine Zd (Za (Zg (Zbn rfl rfl rfl) rfl (Zf (ρ' := [(1, _), (4, _), (11, _), (12, _), (13, _), (14, _)]) ⟨rfl, rfl, rfl, rfl, rfl, rfl, trivial⟩ ?_)))
   refine Zc (Zd ?_)
   refine Zo rfl (fun hb4 => ?_) (fun hb4 => ?_)
   ·
    refine Zr (Zc (Zd (Zad (Zd ?_))))
    have hlt := of_decide_eq_true hb4
    obtain ⟨x, vl, hg, hcut1, s1⟩ := hc1.at (i := i) (by omega)
    have oneAll := (hc1.get i _ hg).one
    rw [hcut1] at oneAll
    have hst := findN_drop (id := id) hg
    obtain ⟨hsz, hsm⟩ := hs x (List.mem_of_getElem? hg)
    refine Za (Zg (Zai rfl Tryz.s47 rfl rfl (by assumption) (by first | rfl | omega) (by omega)) rfl (Zg (Zag rfl Tryz.k50 rfl (by assumption) (by omega) (by assumption) (vs := [_, _, _, _]) rfl rfl rfl rfl) rfl (Zv rfl rfl ?_)))
    refine Zas trivial Tryz.z50 rfl rfl rfl ?_
    refine Zv rfl rfl ?_
    refine Zm trivial rfl Tryz.k50 rfl rfl rfl (vs := [_, _, _, _]) rfl rfl (by first | rfl | assumption | simp [Value.oneCell', str]) (Nat.le_of_ble_eq_true rfl) rfl ?_
    refine Zf (ρ' := [(1, _), (4, _), (7, _), (11, _), (12, _), (13, _)]) ⟨rfl, rfl, rfl, rfl, rfl, rfl, trivial⟩ ?_
    refine Zc (Zd (Za (Zg (Zh rfl Tryz.f50' rfl (by decide) rfl) rfl (Zg (Zi rfl Tryz.k9 rfl rfl rfl (vs := [_]) rfl rfl rfl) rfl (ym rfl rfl (Zg (Zba rfl rfl rfl) rfl (Zf (ρ' := [(1, _), (4, _), (7, _), (11, _), (12, _), (13, _), (20, _)]) ⟨rfl, rfl, rfl, rfl, rfl, rfl, rfl, trivial⟩ ?_)))))))
    refine Zc ?_
    refine Zo rfl (fun hb6 => ?_) (fun hb6 => ?_)
    ·
     refine Zd (Za (Zg (Zh rfl Tryz.f50' rfl (by decide) rfl) rfl (Zg (Zi rfl Tryz.k35 rfl rfl rfl (vs := [_]) rfl rfl rfl) rfl (Zv rfl rfl ?_))))
     refine Zbm (caps := []) trivial rfl rfl Tryz.c50 rfl (FnP.mono (copyLine_fn (szI x.line) vl x.line u (Nat.le_refl _) hsz hsm s1) ?_)
     rintro v u1 hle0 ⟨kcs, ⟨kad, kcap, rfl, hk1⟩, hk2⟩ hle1
     refine Zg (Zh rfl Tryz.f50' rfl (by decide) rfl) rfl (Zv rfl rfl ?_)
     refine Zm trivial rfl Tryz.k35 rfl rfl rfl (vs := [_]) rfl rfl (by first | rfl | assumption | simp [Value.oneCell', str]) (Nat.le_of_ble_eq_true rfl) rfl ?_
     refine Zf (ρ' := [(4, _), (7, _)]) ⟨rfl, rfl, trivial⟩ ?_
     refine Zc (Zd (Za (Zg (Zi rfl Tryz.k50 rfl rfl rfl (vs := [_, _, _, _]) rfl rfl rfl) rfl (Zv rfl rfl ?_))))
     refine Zm trivial rfl Tryz.k50 rfl rfl rfl (vs := [_, _, _, _]) rfl rfl (by first | rfl | assumption | simp [Value.oneCell', str]) (Nat.le_of_ble_eq_true rfl) rfl ?_
     refine ya rfl rfl (Zf (ρ' := [(4, _), (5, _)]) ⟨rfl, rfl, trivial⟩ ?_)
     refine Zc (Zw (Zu (Zj (Zj (Zu (Zj ?_))))))
     refine fin2 (.cell rfl rfl Tryz.k50 (cs := _) (vs := [_, _, _, _]) rfl rfl rfl) (.tmp rfl) ?_
     have h6 := of_decide_eq_true hb6
     rw [if_pos ⟨h6, hne⟩] at hst
     rw [hinv, hst]
     exact ⟨_, rfl, ⟨_, rfl, inlS_of rfl hk1 hk2⟩⟩
    ·
     refine Zr (Zah (Zc (Za (Zg (Zav rfl rfl rfl (Zs (by omega))) rfl ?_))))
     refine ym rfl rfl (Zf (ρ' := [(1, _), (4, _), (11, _), (12, _), (13, _)]) ⟨rfl, rfl, rfl, rfl, rfl, trivial⟩ ?_)
     refine Zab ?_
     refine ⟨m - 1, [(1, _), (4, _), (11, _), (12, _), (13, _)], [(4, _)], by omega, ⟨rfl, rfl, rfl, rfl, rfl, trivial⟩, ⟨rfl, trivial⟩, i + 1, by omega, hle4, (by first | rfl | simp), (by first | rfl | (simp only [List.cons.injEq, Prod.mk.injEq, SV.v.injEq, Value.int.injEq, true_and, and_true]; omega) | simp), ?_⟩
     have h6 := of_decide_eq_false hb6
     rw [if_neg (fun h => h6 h.1)] at hst
     exact ⟨rfl, by rw [hinv, hst]⟩
   ·
    refine Zax ?_
    refine Zq (Zq ?_)
    refine Zaf ?_
    refine Zc (Zd (Za (Zg (Zbf rfl Tryz.f50' Tryz.z50 (ps := []) rfl (vs := [_, _, _, _]) rfl) rfl (Zv rfl rfl ?_))))
    refine Zm trivial rfl Tryz.k50 rfl rfl rfl (vs := [_, _, _, _]) rfl rfl (by first | rfl | assumption | simp [Value.oneCell', str]) (Nat.le_of_ble_eq_true rfl) rfl ?_
    refine ya rfl rfl (Zf (ρ' := [(4, _), (5, _)]) ⟨rfl, rfl, trivial⟩ ?_)
    refine Zc (Zw ?_)
    refine fin2 (.cell rfl rfl Tryz.k50 (cs := _) (vs := [_, _, _, _]) rfl rfl rfl) (.tmp rfl) ?_
    have hge := of_decide_eq_false hb4
    rw [hinv, List.drop_eq_nil_of_le (by omega)]
    exact ⟨[str [], str [], str [], .slice none 0 0], rfl, num0_C _⟩
def knS (n : Nat) : Bs := if n = 0 then [] else kindS n
def kindOfS (k : Int) (free : Bool) (inf id : Bs) : Bs := if k = 2 ∧ free = true then secS else knS (kindN k inf id)
theorem kindOf_fn (k lv : Int) (inf t d ti id : Bs) (vc vp vl vk : Value) (free : Bool) (u : View) : FnP Tryz.prog 48 [.agg (blkV k lv inf t d ti id vc vp vl vk).toArray, .bool free] u fun r _ => r = str (kindOfS k free inf id) := by
 refine FnP.intro [.tmp 4] Tryz.func48 rfl rfl rfl ?_
 intro w0 D hw0
 refine Zd (Za (Zv rfl rfl ?_))
 refine Zbx trivial rfl (cs := [_, _, _, _, _, _, _, _, _, _, _]) rfl rfl rfl rfl ?_
 refine ya rfl rfl (Zf (ρ' := [(1, _), (2, _)]) ⟨rfl, rfl, trivial⟩ ?_)
 refine Zc (Zd (Zad (Zd ?_)))
 refine Zcj 5 (decide (k = 2 ∧ free = true)) (ρk := [(2, _)]) ⟨rfl, trivial⟩ ?_ ?_
 ·
  refine Za (Zg (Zh rfl Tryz.f59' rfl (by decide) rfl) rfl (Zg (Zi rfl Tryz.k3 rfl rfl rfl (vs := [_]) rfl rfl rfl) rfl (Zg (Zaw rfl rfl rfl) rfl (ym rfl rfl ?_))))
  rcases Bool.eq_false_or_eq_true (decide (k = 2)) with hg1_3 | hg1_3
  ·
   simp only [hg1_3]
   refine Zk rfl rfl (ym rfl rfl (Zg (Zl rfl rfl rfl) rfl (ya rfl rfl ?_)))
   exact Zam rfl ⟨rfl, trivial⟩ (by simp_all)
  ·
   simp only [hg1_3]
   refine Zt rfl rfl rfl rfl (Zg (Zn rfl rfl rfl) rfl (ya rfl rfl ?_))
   exact Zam rfl ⟨rfl, trivial⟩ (by simp_all)
 refine Zc ?_
 refine Zo rfl (fun hb1 => ?_) (fun hb1 => ?_)
 ·
  refine Zd (Za (ya rfl rfl (Zf (ρ' := [(4, _)]) ⟨rfl, trivial⟩ ?_)))
  refine Zc (Zw (Zu (Zj (Zbe (.tmp rfl) ?_))))
  rw [kindOfS, if_pos (of_decide_eq_true hb1)]; rfl
 ·
  refine Zd ?_
  refine Zcj 12 (decide (k = 13 ∧ (inf = figS ∨ inf = tabS))) (ρk := [(2, _)]) ⟨rfl, trivial⟩ ?_ ?_
  ·
   refine Za (Zg (Zh rfl Tryz.f59' rfl (by decide) rfl) rfl (Zg (Zi rfl Tryz.k3 rfl rfl rfl (vs := [_]) rfl rfl rfl) rfl (Zg (Zaw rfl rfl rfl) rfl (ym rfl rfl ?_))))
   rcases Bool.eq_false_or_eq_true (decide (k = 13)) with hg3_3 | hg3_3
   ·
    simp only [hg3_3]
    refine Zk rfl rfl (Zg (Zh rfl Tryz.f59' rfl (by decide) rfl) rfl (Zk rfl rfl (Zg (Zi rfl Tryz.k9 rfl rfl rfl (vs := [_]) rfl rfl rfl) rfl (Zk rfl rfl (Zg (Zba rfl rfl rfl) rfl (Zk rfl rfl (ym rfl rfl ?_)))))))
    rcases Bool.eq_false_or_eq_true (decide (inf = figS)) with hg3_7 | hg3_7
    ·
     simp only [hg3_7]
     iterate 3 refine Zt rfl rfl rfl rfl ?_
     refine Zk rfl rfl (Zg (Zl rfl rfl rfl) rfl (Zg (Zl rfl rfl rfl) rfl (ya rfl rfl ?_)))
     exact Zam rfl ⟨rfl, trivial⟩ (by simp_all)
    ·
     simp only [hg3_7]
     refine Zk rfl rfl (Zg (Zh rfl Tryz.f59' rfl (by decide) rfl) rfl (Zk rfl rfl (Zg (Zi rfl Tryz.k9 rfl rfl rfl (vs := [_]) rfl rfl rfl) rfl (Zk rfl rfl (Zg (Zba rfl rfl rfl) rfl (Zk rfl rfl (Zg (Zn rfl rfl rfl) rfl ?_)))))))
     refine Zg (Zl rfl rfl rfl) rfl (ya rfl rfl ?_)
     exact Zam rfl ⟨rfl, trivial⟩ (by simp_all)
   ·
    simp only [hg3_3]
    iterate 4 refine Zt rfl rfl rfl rfl ?_
    iterate 3 refine Zbg rfl rfl rfl ?_
    refine Zt rfl rfl rfl rfl (Zg (Zn rfl rfl rfl) rfl (ya rfl rfl ?_))
    exact Zam rfl ⟨rfl, trivial⟩ (by simp_all)
  refine Zc ?_
  refine Zo rfl (fun hb3 => ?_) (fun hb3 => ?_)
  ·
   refine Zd (Za (Zg (Zh rfl Tryz.f59' rfl (by decide) rfl) rfl (Zg (Zi rfl Tryz.k9 rfl rfl rfl (vs := [_]) rfl rfl rfl) rfl (ya rfl rfl (Zf (ρ' := [(4, _)]) ⟨rfl, trivial⟩ ?_)))))
   refine Zc (Zw (Zu (Zj (Zbe (.tmp rfl) ?_))))
   rw [kindOfS, if_neg (of_decide_eq_false hb1)]
   obtain ⟨hk, h | h⟩ := of_decide_eq_true hb3
   ·
    rw [h, hk]; rfl
   ·
    rw [h, hk]; rfl
  ·
   refine Zd ?_
   refine Zcj 28 (decide (k = 4 ∧ id ≠ [])) (ρk := []) trivial ?_ ?_
   ·
    refine Za (Zg (Zh rfl Tryz.f59' rfl (by decide) rfl) rfl (Zg (Zi rfl Tryz.k3 rfl rfl rfl (vs := [_]) rfl rfl rfl) rfl (Zg (Zaw rfl rfl rfl) rfl (ym rfl rfl ?_))))
    rcases Bool.eq_false_or_eq_true (decide (k = 4)) with hg5_3 | hg5_3
    ·
     simp only [hg5_3]
     refine Zk rfl rfl (Zg (Zh rfl Tryz.f59' rfl (by decide) rfl) rfl (Zk rfl rfl (Zg (Zh rfl Tryz.f39' rfl (by decide) rfl) rfl (Zk rfl rfl (Zg (Zi rfl Tryz.k9 rfl rfl rfl (vs := [_]) rfl rfl rfl) rfl (Zk rfl rfl (Zg (Zbv rfl rfl rfl) rfl ?_)))))))
     refine Zg (Zl rfl rfl rfl) rfl (ya rfl rfl ?_)
     exact Zam rfl trivial (by simp_all)
    ·
     simp only [hg5_3]
     iterate 4 refine Zt rfl rfl rfl rfl ?_
     refine Zg (Zn rfl rfl rfl) rfl (ya rfl rfl ?_)
     exact Zam rfl trivial (by simp_all)
   refine Zc ?_
   refine Zo rfl (fun hb5 => ?_) (fun hb5 => ?_)
   ·
    refine Zd (Za (ya rfl rfl (Zf (ρ' := [(4, _)]) ⟨rfl, trivial⟩ ?_)))
    refine Zc (Zw (Zu (Zj (Zbe (.tmp rfl) ?_))))
    rw [kindOfS, if_neg (of_decide_eq_false hb1)]
    have h5 := of_decide_eq_true hb5
    rw [kindN, if_neg (by omega), if_neg (by omega), if_pos h5]; rfl
   ·
    refine Zr (Zah (Zc (Zd (Za (ya rfl rfl (Zf (ρ' := [(4, _)]) ⟨rfl, trivial⟩ ?_))))))
    refine Zc (Zw (Zbe (.tmp rfl) ?_))
    rw [kindOfS, if_neg (of_decide_eq_false hb1)]
    have h3 := of_decide_eq_false hb3
    rw [kindN, if_neg (fun h => h3 ⟨h.1, .inl h.2⟩), if_neg (fun h => h3 ⟨h.1, .inr h.2⟩), if_neg (of_decide_eq_false hb5)]; rfl
def mixF (F G : Nat → Nat) (i : Nat) : Nat → Nat := fun j => if j < i then G (j + 1) else F (j + 1)
theorem mix_zero (F G : Nat → Nat) (n : Nat) : arr n (mixF F G 0) = arr n (fun j => F (j + 1)) := arr_congr fun j _ => by unfold mixF; rw [if_neg (by omega)]
theorem mix_end (F G : Nat → Nat) (n : Nat) : arr n (mixF F G n) = arr n (fun j => G (j + 1)) := arr_congr fun j hj => by unfold mixF; rw [if_pos hj]
theorem mix_set {F G : Nat → Nat} {i n o v : Nat} (hi : i < n) (ho : o = i) (hv : v = G (i + 1)) : setAt (arr n (mixF F G i)) o [.int .i64 (v : Nat)] = arr n (mixF F G (i + 1)) := by
 rw [set_arr hi ho]
 refine arr_congr fun j hj => ?_
 unfold setF mixF
 by_cases e : j = i
 ·
  subst e; rw [if_pos rfl, if_pos (by omega), hv]
 ·
  rw [if_neg e]
  by_cases e2 : j < i
  ·
   rw [if_pos e2, if_pos (by omega)]
  ·
   rw [if_neg e2, if_neg (by omega)]
theorem mix_at (F G : Nat → Nat) (i : Nat) : mixF F G i i = F (i + 1) := if_neg (by omega)
theorem mix_at2 (F G : Nat → Nat) (i : Nat) : mixF F G (i + 1) i = G (i + 1) := if_pos (by omega)
def decs (F : Nat → Nat) (n : Nat) : List Bs := (List.range n).map fun j => dec (F (j + 1))
theorem decs_len (F : Nat → Nat) (n : Nat) : (decs F n).length = n := by simp [decs]
theorem decs_succ (F : Nat → Nat) (n : Nat) : decs F (n + 1) = decs F n ++ [dec (F (n + 1))] := by simp [decs, List.range_succ]
theorem decs_val (F : Nat → Nat) (n : Nat) : Lib.join (decs F n) [46] = valF F n := by
 unfold valF dots decs
 rw [List.map_map]; rfl
theorem ctrF_le {f : Nat → Nat} {B : Nat} (hf : ∀ j, f j ≤ B) (l j : Nat) : ctrF f l j ≤ B + 1 := by
 have := hf j
 unfold ctrF
 split
 ·
  omega
 ·
  split
  ·
   omega
  ·
   split <;> omega
theorem ctr_lt {F : Nat → Nat} {k i : Nat} (h : i + 1 < k) : ctrF F k (i + 1) = max (F (i + 1)) 1 := by
 unfold ctrF; rw [if_neg (by omega), if_pos h]
theorem ctr_eq {F : Nat → Nat} {k i : Nat} (h : i + 1 = k) : ctrF F k (i + 1) = F (i + 1) + 1 := by
 unfold ctrF; rw [if_neg (by omega), if_neg (by omega), if_pos h]
theorem ctr_gt {F : Nat → Nat} {k i : Nat} (h : k < i + 1) : ctrF F k (i + 1) = 0 := by
 unfold ctrF; rw [if_neg (by omega), if_neg (by omega), if_neg (by omega)]
set_option maxHeartbeats 2000000 in
theorem next_fn (F : Nat → Nat) (lv : Int) (b : Nat) (hF : ∀ j, F j ≤ 10000) (u : View) (hT : TabU u) :
  FnO Tryz.prog 49 [.pointer (some ⟨b, 0, none⟩), .int .i64 lv] u [(some b, .box (arr 6 fun j => F (j + 1)))] fun r u' l' => r = str (valF (ctrF F (clampL lv)) (clampL lv)) ∧ l' = [(some b, .box (arr 6 fun j => ctrF F (clampL lv) (j + 1)))] := by
 have hcl := clampL_le lv
 have hkI : (lv < 1 ∧ clampL lv = 1) ∨ (6 < lv ∧ clampL lv = 6) ∨ (1 ≤ lv ∧ lv ≤ 6 ∧ (clampL lv : Int) = lv) := by
  unfold clampL
  by_cases h : lv < 1
  ·
   exact .inl ⟨h, if_pos h⟩
  ·
   by_cases h6 : 6 < lv
   ·
    exact .inr (.inl ⟨h6, by rw [if_neg h, if_pos h6]⟩)
   ·
    exact .inr (.inr ⟨by omega, by omega, by rw [if_neg h, if_neg h6]; omega⟩)
 generalize hk : clampL lv = k at *
 have hG := ctrF_le hF k
 generalize hGd : ctrF F k = G at *
 refine FnO.intro [.tmp 4] Tryz.func49 rfl rfl rfl ?_
 intro w0 D hw0
 refine Zco 0 1000 _ 0 rfl rfl ?_
 refine Zd (Za (ya rfl rfl (Zf (ρ' := [(0, _), (1, _)]) ⟨rfl, rfl, trivial⟩ ?_)))
 refine Zc (Zd (Za (ym rfl rfl (Zg (y_min (r := if (6 : Int) < lv then 6 else lv) rfl rfl rfl rfl) rfl ?_))))
 refine Zg (y_max (r := ((k : Nat) : Int)) rfl rfl rfl (by rcases hkI with ⟨h, e⟩ | ⟨h, e⟩ | ⟨h, h2, e⟩ <;> by_cases h6 : (6 : Int) < lv <;> simp only [h6, if_true, if_false] <;> split <;> omega)) rfl ?_
 refine ya rfl rfl (Zf (ρ' := [(0, _), (5, _)]) ⟨rfl, rfl, trivial⟩ ?_)
 refine Zc (Zd (Za (ym rfl rfl (Zv rfl rfl ?_))))
 refine do_make0 trivial Tryz.s37 Tryz.z9 rfl rfl (c := k) (by omega) (by omega) rfl rfl rfl ?_
 refine ya rfl rfl ?_
 refine rl_ren 12 506 rfl rfl rfl ?_
 refine Zf (ρ' := [(0, _), (5, _), (6, _)]) ⟨rfl, rfl, rfl, trivial⟩ ?_
 refine Zc (Zd (Zd (Za (ym rfl rfl (Zf (ρ' := [(0, _), (5, _), (6, _), (13, _)]) ⟨rfl, rfl, rfl, rfl, trivial⟩ ?_)))))
 refine Zc (Zad ?_)
 refine Zbc (fun m ρ σ u' => ∃ i : Nat, i + m = 6 ∧ VLe u u' ∧ σ = [(506, (none, .row 9 1 (min i k) (strsC (decs G (min i k))))), (1000, (some b, .box (arr 6 (mixF F G i))))] ∧ ρ = [(0, .p 1000 0), (5, .v (.int .i64 k)), (6, .s 506), (13, .v (.int .i64 i))] ∧ (u = u')) (6) ?_ ?_
 ·
  refine ⟨[(0, _), (5, _), (6, _), (13, _)], [(506, _), (1000, _)], ⟨rfl, rfl, rfl, rfl, trivial⟩, ⟨rfl, rfl, trivial⟩, 0, by omega, VLe.refl _, (by rw [mix_zero, Nat.zero_min]; rfl), rfl, ?_⟩
  rfl
 ·
  rintro m ρ σ u' ⟨i, hi4, hle4, rfl, rfl, rfl⟩
  refine Zd (Za (Zg (Zbn rfl rfl rfl) rfl (Zf (ρ' := [(0, _), (5, _), (6, _), (13, _), (14, _)]) ⟨rfl, rfl, rfl, rfl, rfl, trivial⟩ ?_)))
  refine Zc (Zd ?_)
  refine Zo rfl (fun hb4 => ?_) (fun hb4 => ?_)
  ·
   refine Zr (Zc (Zd (Zad (Zd ?_))))
   have hlt := of_decide_eq_true hb4
   refine Za (ym rfl rfl (ya rfl rfl (Zf (ρ' := [(0, _), (5, _), (6, _), (7, _), (13, _)]) ⟨rfl, rfl, rfl, rfl, rfl, trivial⟩ ?_)))
   refine Zc ?_
   refine Zbu (fun ρ σ uc11 => VLe u uc11 ∧ σ = [(506, (none, .row 9 1 (min i k) (strsC (decs G (min i k))))), (1000, (some b, .box (arr 6 (mixF F G (i + 1)))))] ∧ ρ = [(0, .p 1000 0), (5, .v (.int .i64 k)), (6, .s 506), (7, .v (.int .i64 i)), (13, .v (.int .i64 i))] ∧ (u = uc11)) ?_ ?_
   ·
    refine Zad (Zd (Za (ym rfl rfl (ym rfl rfl (Zg (y_sub (r := ((k - 1 : Nat) : Int)) rfl rfl rfl (by rw [Zs (by omega)]; omega)) rfl ?_)))))
    refine Zg (Zbn rfl rfl rfl) rfl (ya rfl rfl (Zf (ρ' := [(0, _), (5, _), (6, _), (7, _), (13, _), (20, _)]) ⟨rfl, rfl, rfl, rfl, rfl, rfl, trivial⟩ ?_))
    refine Zc ?_
    refine Zo rfl (fun hb7 => ?_) (fun hb7 => ?_)
    ·
     have h7 := of_decide_eq_true hb7
     refine Zbk Tryz.mixed rfl [] trivial ?_
     refine Zal 0 rfl (by kernel_rfl) (Ze (Zb (Ze (Zb (Zb (Ze (Zb (Zp)))))))) (Zap rfl rfl) rfl (Zal 1 rfl (by kernel_rfl) (Ze (Zb (Ze (Zb (Zb (Ze (Zb (Zp)))))))) (Zap rfl rfl) rfl (Zal 2 rfl (by kernel_rfl) (Ze (Zb (Ze (Zb (Zb (Ze (Zb (Zp)))))))) (Zap rfl rfl) rfl (Zal 3 rfl (by kernel_rfl) (Ze (Zb (Ze (Zb (Zb (Ze (Zb (Zp)))))))) (Zap rfl rfl) rfl ?_)))
     refine Zal 4 rfl (by kernel_rfl) (Ze (Zb (Ze (Zb (Zb (Ze (Zb (Zp)))))))) (Zbp rfl rfl) rfl ?_
     refine Zal 5 rfl (by kernel_rfl) (Ze (Zb (Ze (Zb (Zb (Ze (Zb (Zp)))))))) (Zcq rfl Tryz.a85 rfl rfl (by first | rfl | omega) (by omega)) rfl ?_
     refine Zal 8 rfl (by kernel_rfl) (Ze (Zb (Ze (Zb (Zb (Ze (Zb (Zp)))))))) (Zbp rfl rfl) rfl ?_
     refine Zar (i := 6) rfl rfl (by kernel_rfl) ?_
     refine do_y (Zi rfl Tryz.k3 rfl rfl rfl (cut_arr (i := i) (by omega) (by omega)) rfl rfl) rfl ?_
     rw [mix_at]
     refine Zal 7 rfl (by kernel_rfl) (Ze (Zb (Ze (Zb (Zb (Ze (Zb (Zp)))))))) (y_max (r := ((max (F (i + 1)) 1 : Nat) : Int)) rfl rfl rfl (by split <;> omega)) rfl ?_
     refine Zal 9 rfl (by kernel_rfl) (Ze (Zb (Ze (Zb (Zb (Ze (Zb (Zp)))))))) (Zcq rfl Tryz.a85 rfl rfl (by first | rfl | omega) (by omega)) rfl ?_
     refine Zar (i := 10) rfl rfl (by kernel_rfl) ?_
     refine Zm trivial rfl Tryz.k3 rfl rfl rfl (vs := [_]) rfl rfl rfl (by simp [arr_len]; omega) (mix_set (i := i) (v := max (F (i + 1)) 1) (by omega) (by omega) (by rw [← hGd, ctr_lt (by omega)])) ?_
     refine Zbl (by kernel_rfl) (ρ' := [(0, _), (5, _), (6, _), (7, _), (13, _)]) ⟨rfl, rfl, rfl, rfl, rfl, trivial⟩ ?_
     refine Zah (Zab ?_)
     refine ⟨[(0, _), (5, _), (6, _), (7, _), (13, _)], [(506, _), (1000, _)], ⟨rfl, rfl, rfl, rfl, rfl, trivial⟩, ⟨rfl, rfl, trivial⟩, (VLe.refl _), (by first | rfl | simp), (by first | rfl | (simp only [List.cons.injEq, Prod.mk.injEq, SV.v.injEq, Value.int.injEq, true_and, and_true]; omega) | simp), ?_⟩
     rfl
    ·
     have h7 := of_decide_eq_false hb7
     refine Zd (Za (ym rfl rfl (ym rfl rfl (Zg (y_sub (r := ((k - 1 : Nat) : Int)) rfl rfl rfl (by rw [Zs (by omega)]; omega)) rfl ?_))))
     refine Zg (Zaw rfl rfl rfl) rfl (ya rfl rfl (Zf (ρ' := [(0, _), (5, _), (6, _), (7, _), (13, _), (35, _)]) ⟨rfl, rfl, rfl, rfl, rfl, rfl, trivial⟩ ?_))
     refine Zc ?_
     refine Zo rfl (fun hb9 => ?_) (fun hb9 => ?_)
     ·
      have h9 := of_decide_eq_true hb9
      refine Zbk Tryz.mixed rfl [] trivial ?_
      refine Zal 0 rfl (by kernel_rfl) (Ze (Zb (Ze (Zb (Zb (Ze (Zb (Zp)))))))) (Zap rfl rfl) rfl (Zal 1 rfl (by kernel_rfl) (Ze (Zb (Ze (Zb (Zb (Ze (Zb (Zp)))))))) (Zap rfl rfl) rfl ?_)
      refine Zal 2 rfl (by kernel_rfl) (Ze (Zb (Ze (Zb (Zb (Ze (Zb (Zp)))))))) (Zbp rfl rfl) rfl ?_
      refine Zal 3 rfl (by kernel_rfl) (Ze (Zb (Ze (Zb (Zb (Ze (Zb (Zp)))))))) (Zcq rfl Tryz.a85 rfl rfl (by first | rfl | omega) (by omega)) rfl ?_
      refine Zal 6 rfl (by kernel_rfl) (Ze (Zb (Ze (Zb (Zb (Ze (Zb (Zp)))))))) (Zbp rfl rfl) rfl ?_
      refine Zar (i := 4) rfl rfl (by kernel_rfl) ?_
      refine do_y (Zi rfl Tryz.k3 rfl rfl rfl (cut_arr (i := i) (by omega) (by omega)) rfl rfl) rfl ?_
      rw [mix_at]; have hFi := hF (i + 1)
      refine Zal 5 rfl (by kernel_rfl) (Ze (Zb (Ze (Zb (Zb (Ze (Zb (Zp)))))))) (Zav rfl rfl rfl (Zs (by omega))) rfl ?_
      refine Zal 7 rfl (by kernel_rfl) (Ze (Zb (Ze (Zb (Zb (Ze (Zb (Zp)))))))) (Zcq rfl Tryz.a85 rfl rfl (by first | rfl | omega) (by omega)) rfl ?_
      refine Zar (i := 8) rfl rfl (by kernel_rfl) ?_
      refine Zm trivial rfl Tryz.k3 rfl rfl rfl (vs := [_]) rfl rfl rfl (by simp [arr_len]; omega) (mix_set (i := i) (v := F (i + 1) + 1) (by omega) (by omega) (by rw [← hGd, ctr_eq (by omega)])) ?_
      refine Zbl (by kernel_rfl) (ρ' := [(0, _), (5, _), (6, _), (7, _), (13, _)]) ⟨rfl, rfl, rfl, rfl, rfl, trivial⟩ ?_
      refine Zah (Zab ?_)
      refine ⟨[(0, _), (5, _), (6, _), (7, _), (13, _)], [(506, _), (1000, _)], ⟨rfl, rfl, rfl, rfl, rfl, trivial⟩, ⟨rfl, rfl, trivial⟩, (VLe.refl _), (by first | rfl | simp), (by first | rfl | (simp only [List.cons.injEq, Prod.mk.injEq, SV.v.injEq, Value.int.injEq, true_and, and_true]; omega) | simp), ?_⟩
      rfl
     ·
      have h9 := of_decide_eq_false hb9
      refine Za (ym rfl rfl (ym rfl rfl (Zg (Zbp rfl rfl) rfl (Zg (Zcq rfl Tryz.a85 rfl rfl (by first | rfl | omega) (by omega)) rfl (Zv rfl rfl ?_)))))
      refine Zm trivial rfl Tryz.k3 rfl rfl rfl (vs := [_]) rfl rfl rfl (by simp [arr_len]; omega) (mix_set (i := i) (v := 0) (by omega) (by omega) (by rw [← hGd, ctr_gt (by omega)])) ?_
      refine Zf (ρ' := [(0, _), (5, _), (6, _), (7, _), (13, _)]) ⟨rfl, rfl, rfl, rfl, rfl, trivial⟩ ?_
      refine Zah (Zab ?_)
      refine ⟨[(0, _), (5, _), (6, _), (7, _), (13, _)], [(506, _), (1000, _)], ⟨rfl, rfl, rfl, rfl, rfl, trivial⟩, ⟨rfl, rfl, trivial⟩, (VLe.refl _), (by first | rfl | simp), (by first | rfl | (simp only [List.cons.injEq, Prod.mk.injEq, SV.v.injEq, Value.int.injEq, true_and, and_true]; omega) | simp), ?_⟩
      rfl
   ·
    rintro ρ σ uc11 ⟨hlc11, rfl, rfl, rfl⟩
    refine Zd (Za (ym rfl rfl (ym rfl rfl (Zg (Zbn rfl rfl rfl) rfl (Zf (ρ' := [(0, _), (5, _), (6, _), (7, _), (13, _), (50, _)]) ⟨rfl, rfl, rfl, rfl, rfl, rfl, trivial⟩ ?_)))))
    refine Zc ?_
    refine Zo rfl (fun hb11 => ?_) (fun hb11 => ?_)
    ·
     have h11 := of_decide_eq_true hb11
     refine Za (ym rfl rfl (ym rfl rfl (ym rfl rfl (Zg (Zbp rfl rfl) rfl (Zg (Zcq rfl Tryz.a85 rfl rfl (by first | rfl | omega) (by omega)) rfl (Zg (Zi rfl Tryz.k3 rfl rfl rfl (cut_arr (i := i) (by omega) (by omega)) rfl rfl) rfl ?_))))))
     rw [mix_at2]; have hGi := hG (i + 1)
     refine Zv rfl rfl ?_
     refine Zaa (caps := []) trivial rfl rfl Tryz.c46 rfl (FnP.mono (itoa_fn (G (i + 1)) (by omega) u hT) ?_)
     rintro v u1 hle1 rfl
     refine Zv rfl rfl ?_
     refine Zak trivial Tryz.s37 Tryz.z9 (ps := [(_, _)]) rfl (xs := [_]) rfl rfl rfl rfl rfl rfl rfl ?_
     refine Zv rfl rfl ?_
     refine Zby trivial rfl rfl Tryz.s37 Tryz.z9 rfl rfl rfl rfl rfl rfl (by first | rfl | assumption | simp [Value.oneCell', str]) (by omega) (by omega) (ρ' := [(0, _), (5, _), (13, _)]) ⟨rfl, rfl, rfl, trivial⟩ rfl rfl rfl ?_
     refine ya rfl rfl ?_
     refine rl_ren 59 506 rfl rfl rfl ?_
     refine Zf (ρ' := [(0, _), (5, _), (6, _), (13, _)]) ⟨rfl, rfl, rfl, rfl, trivial⟩ ?_
     refine Zah (Zc (Za (Zg (Zav rfl rfl rfl (Zs (by omega))) rfl ?_)))
     refine ym rfl rfl (Zf (ρ' := [(0, _), (5, _), (6, _), (13, _)]) ⟨rfl, rfl, rfl, rfl, trivial⟩ ?_)
     refine Zab ?_
     refine ⟨m - 1, [(0, _), (5, _), (6, _), (13, _)], [(506, _), (1000, _)], by omega, ⟨rfl, rfl, rfl, rfl, trivial⟩, ⟨rfl, rfl, trivial⟩, i + 1, by omega, hle4, (by first | (rw [Nat.min_eq_left (by omega : i + 1 ≤ k), Nat.min_eq_left (by omega : i ≤ k), decs_succ]; simp [strsC]; done) | (rw [Nat.min_eq_right (by omega : k ≤ i + 1), Nat.min_eq_right (by omega : k ≤ i)]; done)), (by first | rfl | simp), ?_⟩
     rfl
    ·
     have h11 := of_decide_eq_false hb11
     refine Zr (Zah (Zc (Za (Zg (Zav rfl rfl rfl (Zs (by omega))) rfl ?_))))
     refine ym rfl rfl (Zf (ρ' := [(0, _), (5, _), (6, _), (13, _)]) ⟨rfl, rfl, rfl, rfl, trivial⟩ ?_)
     refine Zab ?_
     refine ⟨m - 1, [(0, _), (5, _), (6, _), (13, _)], [(506, _), (1000, _)], by omega, ⟨rfl, rfl, rfl, rfl, trivial⟩, ⟨rfl, rfl, trivial⟩, i + 1, by omega, hle4, (by first | (rw [Nat.min_eq_left (by omega : i + 1 ≤ k), Nat.min_eq_left (by omega : i ≤ k), decs_succ]; simp [strsC]; done) | (rw [Nat.min_eq_right (by omega : k ≤ i + 1), Nat.min_eq_right (by omega : k ≤ i)]; done)), (by first | rfl | simp), ?_⟩
     rfl
  ·
   refine Zax ?_
   refine Zq (Zq ?_)
   refine Zaf ?_
   refine Zc (Zd ?_)
   have hge := of_decide_eq_false hb4
   have hi6 : i = 6 := by omega
   subst hi6
   rw [mix_end, Nat.min_eq_right (by omega : k ≤ 6)]
   have hvl := valF_len (f := G) (fun j => Nat.le_trans (hG j) (by omega)) k
   refine Za (ym rfl rfl ?_)
   refine Zbo 506 rfl ?_
   intro ad506 cap506 u506 hle506z hsl506
   refine Zv rfl rfl ?_
   refine Zaa (caps := []) trivial rfl rfl Tryz.c80 rfl (FnP.mono (join_fn _ (decs G k) [46] u506 (strS_of (decs_len G k).symm hsl506) (by rw [decs_len]; omega) (by rw [decs_val]; omega)) ?_)
   rintro v u1 hle1 rfl
   refine ya rfl rfl (Zf (ρ' := [(4, _)]) ⟨rfl, trivial⟩ ?_)
   refine Zc (Zw ?_)
   refine finO1 [1000] (.tmp rfl) rfl rfl ?_
   exact ⟨by rw [decs_val], rfl⟩
theorem setAt_append {acc zs vs : List Value} {o : Nat} (ho : o = acc.length) (hl : vs.length = zs.length) : setAt (acc ++ zs) o vs = acc ++ vs := by
 subst ho
 rw [setAt_eq _ _ _ (by simp [hl])]
 simp [hl]
abbrev visI (b3 b4 : Nat) : Value := .func (.func 106) #[] #[.pointer (some ⟨b3, 0, none⟩), .pointer (some ⟨b4, 0, none⟩)]
set_option maxHeartbeats 4000000 in
theorem visI_fn (b3 b4 : Nat) (n : Nat) : ∀ (v : Value) (xs out : List Inl) (ao : Option Addr) (co : Nat) (acc : List Value) (u : View), szI xs ≤ n → out.length + szI xs ≤ 100000 → smI xs → InlS u v xs → InlsC u out acc →
  FnO Tryz.prog 106 [v, .pointer (some ⟨b3, 0, none⟩), .pointer (some ⟨b4, 0, none⟩)] u [(some b3, .box [.slice ao out.length co]), (some b4, .box [visI b3 b4]), (none, .rwv (.slice ao out.length co) 42 10 out.length acc)]
   fun r u' l' => r = .tuple #[] ∧ ∃ ao' co' acc', l' = [(some b3, .box [.slice ao' (out ++ deep xs).length co']), (some b4, .box [visI b3 b4]), (none, .rwv (.slice ao' (out ++ deep xs).length co') 42 10 (out ++ deep xs).length acc')] ∧ InlsC u' (out ++ deep xs) acc' := by
 induction n using Nat.strongRecOn with
 | _ n ih =>
 intro v xs out ao co acc u hsz hbig hsm ha hacc
 have hlx := len_szI xs
 obtain ⟨cs, ⟨ad, cap, rfl, h1⟩, hc1⟩ := ha
 refine FnO.intro [] Tryz.func106 rfl rfl rfl ?_
 intro w0 D hw0
 refine Zco 1 1000 _ 0 rfl rfl ?_
 refine Zco 2 1001 _ 0 rfl rfl ?_
 refine Zd (Za (ym rfl rfl (Zg (Zaq rfl rfl Tryz.s35 rfl) rfl (ym rfl rfl (Zf (ρ' := [(0, _), (1, _), (2, _), (7, _), (8, _)]) ⟨rfl, rfl, rfl, rfl, rfl, trivial⟩ ?_)))))
 refine Zc (Zad ?_)
 refine Zbc (fun m ρ σ u' => ∃ i : Nat, i + m = xs.length ∧ VLe u u' ∧ ∃ (ai : Option Addr) (ci : Nat) (li : List Value), σ = [(1000, (some b3, .box [.slice ai (out ++ deep (xs.take i)).length ci])), (1001, (some b4, .box [visI b3 b4])), (1002, (none, .rwv (.slice ai (out ++ deep (xs.take i)).length ci) 42 10 (out ++ deep (xs.take i)).length li))] ∧ ρ = [(0, .v (.slice ad xs.length cap)), (1, .p 1000 0), (2, .p 1001 0), (7, .v (.int .i64 xs.length)), (8, .v (.int .i64 i))] ∧ (InlsC u' (out ++ deep (xs.take i)) li)) (xs.length) ?_ ?_
 ·
  refine ⟨[(0, _), (1, _), (2, _), (7, _), (8, _)], [(1000, _), (1001, _), (1002, _)], ⟨rfl, rfl, rfl, rfl, rfl, trivial⟩, ⟨rfl, rfl, rfl, trivial⟩, 0, by omega, VLe.refl _, ao, co, acc, (by simp [deep]), rfl, ?_⟩
  simpa [deep] using hacc
 ·
  rintro m ρ σ u' ⟨i, hi1, hle1, ai, ci, li, rfl, rfl, hli⟩
  refine Zd (Za (Zg (Zbn rfl rfl rfl) rfl (Zf (ρ' := [(0, _), (1, _), (2, _), (7, _), (8, _), (9, _)]) ⟨rfl, rfl, rfl, rfl, rfl, rfl, trivial⟩ ?_)))
  refine Zc (Zd ?_)
  refine Zo rfl (fun hb1 => ?_) (fun hb1 => ?_)
  ·
   refine Zr (Zc (Zd (Zad (Zd (Za (ym rfl rfl (ya rfl rfl (Zf (ρ' := [(0, _), (1, _), (2, _), (4, _), (7, _), (8, _)]) ⟨rfl, rfl, rfl, rfl, rfl, rfl, trivial⟩ ?_))))))))
   refine Zc (Zd ?_)
   have hlt : i < xs.length := by have := of_decide_eq_true hb1; omega
   have h1 := h1.mono hle1
   obtain ⟨k, t, d, ti, a, args, cites, kids, vc, vp, va, vt, vk, hg, hcut1, s1, s2, s3, s4, s5, hok⟩ := (hc1.mono hle1).at hlt
   have oneAll := ((hc1.mono hle1).get i _ hg).one
   rw [hcut1] at oneAll
   have t5 := s5
   obtain ⟨kcs, ⟨kad, kcap, rfl, hk1⟩, hk2⟩ := t5
   have hsm1 := smI_get hsm hg
   unfold smI1 at hsm1
   obtain ⟨⟨n1, n2, n3, n4, n5, n6, n7, n8⟩, hsmk⟩ := hsm1
   have hszk := szI_kids hg
   have hdt := deep_take hg
   have hszt := szI_take hg
   have hszle := szI_take_le xs (i + 1)
   simp only [deep1] at hdt
   simp only [sz1] at hszt
   have hAl : (out ++ deep (xs.take i)).length = out.length + szI (xs.take i) := by simp [deep_len]
   have hdt2 : out ++ deep (xs.take (i + 1)) = (out ++ deep (xs.take i) ++ [.mk k t d ti a args cites kids]) ++ deep kids := by rw [hdt]; simp
   generalize out ++ deep (xs.take i) = A at *
   refine Za (ym rfl rfl (ym rfl rfl (Zg (Zai rfl Tryz.s35 rfl rfl (by assumption) (by first | rfl | omega) (by omega)) rfl (Zg (Zag rfl Tryz.k42 rfl (by assumption) (by omega) (by assumption) (vs := [_, _, _, _, _, _, _, _, _, _]) rfl rfl rfl rfl) rfl (Zv rfl rfl ?_)))))
   refine Zas trivial Tryz.z42 rfl rfl rfl ?_
   refine Zv rfl rfl ?_
   refine Zm trivial rfl Tryz.k42 rfl rfl rfl (vs := [_, _, _, _, _, _, _, _, _, _]) rfl rfl (by first | rfl | assumption | simp [Value.oneCell', str]) (Nat.le_of_ble_eq_true rfl) rfl ?_
   refine Zf (ρ' := [(0, _), (1, _), (2, _), (4, _), (5, _), (7, _), (8, _)]) ⟨rfl, rfl, rfl, rfl, rfl, rfl, rfl, trivial⟩ ?_
   refine Zc (Zd (Za (Zg (Zh rfl Tryz.f42' rfl (by decide) rfl) rfl (Zg (Zi rfl Tryz.k39 rfl rfl rfl (vs := [_, _, _]) rfl rfl rfl) rfl (Zv rfl rfl ?_)))))
   refine Zbm (caps := []) trivial rfl rfl Tryz.c107 rfl (FnP.mono (copyAttr_fn a vc vp u' (by omega) (by omega) s1 s2) ?_)
   rintro v uA hle0 ⟨vc2, vp2, rfl, ⟨ad1, cap1, rfl, q1⟩, ⟨ad2, cap2, rfl, q2⟩⟩ hleA
   refine Zg (Zh rfl Tryz.f42' rfl (by decide) rfl) rfl (Zv rfl rfl ?_)
   refine Zm trivial rfl Tryz.k39 rfl rfl rfl (vs := [_, _, _]) rfl rfl (by first | rfl | assumption | simp [Value.oneCell', str]) (Nat.le_of_ble_eq_true rfl) rfl ?_
   refine Zf (ρ' := [(0, _), (1, _), (2, _), (4, _), (5, _), (7, _), (8, _)]) ⟨rfl, rfl, rfl, rfl, rfl, rfl, rfl, trivial⟩ ?_
   refine Zc (Zd (Za (Zg (Zh rfl Tryz.f42' rfl (by decide) rfl) rfl (Zg (Zi rfl Tryz.k37 rfl rfl rfl (vs := [_]) rfl rfl rfl) rfl (Zv rfl rfl ?_)))))
   refine Zbm (caps := []) trivial rfl rfl Tryz.c108 rfl (FnP.mono (cloneStr_fn va args (by omega) uA (s3.mono hleA)) ?_)
   rintro v uB hle0 ⟨ad3, cap3, rfl, q3⟩ hleB
   refine Zg (Zh rfl Tryz.f42' rfl (by decide) rfl) rfl (Zv rfl rfl ?_)
   refine Zm trivial rfl Tryz.k37 rfl rfl rfl (vs := [_]) rfl rfl (by first | rfl | assumption | simp [Value.oneCell', str]) (Nat.le_of_ble_eq_true rfl) rfl ?_
   refine Zf (ρ' := [(0, _), (1, _), (2, _), (4, _), (5, _), (7, _), (8, _)]) ⟨rfl, rfl, rfl, rfl, rfl, rfl, rfl, trivial⟩ ?_
   refine Zc (Zd (Za (Zg (Zh rfl Tryz.f42' rfl (by decide) rfl) rfl (Zg (Zi rfl Tryz.k40 rfl rfl rfl (vs := [_]) rfl rfl rfl) rfl (Zv rfl rfl ?_)))))
   refine Zbm (caps := []) trivial rfl rfl Tryz.c109 rfl (FnP.mono (cloneCi_fn vt cites (by omega) uB ((s4.mono hleA).mono hleB)) ?_)
   rintro v uC hle0 ⟨ad4, cap4, rfl, q4⟩ hleC
   refine Zg (Zh rfl Tryz.f42' rfl (by decide) rfl) rfl (Zv rfl rfl ?_)
   refine Zm trivial rfl Tryz.k40 rfl rfl rfl (vs := [_]) rfl rfl (by first | rfl | assumption | simp [Value.oneCell', str]) (Nat.le_of_ble_eq_true rfl) rfl ?_
   refine Zf (ρ' := [(0, _), (1, _), (2, _), (4, _), (5, _), (7, _), (8, _)]) ⟨rfl, rfl, rfl, rfl, rfl, rfl, rfl, trivial⟩ ?_
   refine Zc (Zd ?_)
   refine Zbk Tryz.mixed rfl [(5, _)] ⟨rfl, trivial⟩ ?_
   refine Zal 1 rfl (by kernel_rfl) (Zb (Ze (Zb (Zb (Ze (Zp)))))) (Zi rfl Tryz.k42 rfl rfl rfl (vs := [_, _, _, _, _, _, _, _, _, _]) rfl rfl rfl) rfl ?_
   refine ra_all (is := [0, 3]) (by kernel_rfl) rfl ?_
   refine Zaz rfl rfl ?_ ?_
   ·
    refine do_y (Zi rfl Tryz.k35 rfl rfl rfl (vs := [_]) rfl rfl rfl) rfl ?_
    refine Zal 2 rfl (by kernel_rfl) (Zb (Ze (Zb (Zb (Ze (Zp)))))) (Zaq rfl rfl Tryz.s35 rfl) rfl ?_
    refine Zar (i := 3) rfl rfl (by kernel_rfl) ?_
    refine Zak ⟨rfl, trivial⟩ Tryz.s35 Tryz.z42 (ps := [(_, _)]) rfl (xs := [_, _, _, _, _, _, _, _, _, _]) rfl rfl rfl rfl rfl rfl rfl ?_
    refine Zar (i := 4) rfl rfl (by kernel_rfl) ?_
    refine Zca 1002 ⟨rfl, trivial⟩ rfl rfl Tryz.s35 Tryz.z42 rfl rfl rfl rfl rfl rfl (by first | rfl | simp [Value.oneCell', str]) (by omega) (by omega) rfl rfl ?_
    intro a2 c2
    refine Zal 5 rfl (by kernel_rfl) (Zb (Ze (Zb (Zb (Ze (Zp)))))) (y_index_w 1002 rfl Tryz.s35 rfl rfl rfl (j := A.length) rfl (by omega)) rfl ?_
    refine ra_all (is := [6, 7]) (by kernel_rfl) rfl ?_
    refine Zaz rfl rfl ?_ ?_
    ·
     have hlA := hli.len
     refine do_store_w ⟨rfl, trivial⟩ rfl Tryz.k42 rfl rfl rfl (vs := [_, _, _, _, _, _, _, _, _, _]) rfl rfl (by simp [Value.oneCell', str]) (by simp; omega) (setAt_append (by omega) rfl) ?_
     refine Zar (i := 7) rfl rfl (by kernel_rfl) ?_
     refine Zm ⟨rfl, trivial⟩ rfl Tryz.k35 rfl rfl rfl (vs := [_]) rfl rfl (by first | rfl | assumption | simp [Value.oneCell', str]) (Nat.le_of_ble_eq_true rfl) rfl ?_
     refine Zbl (by kernel_rfl) (ρ' := [(0, _), (1, _), (2, _), (4, _), (7, _), (8, _)]) ⟨rfl, rfl, rfl, rfl, rfl, rfl, trivial⟩ ?_
     refine Zc ?_
     have hl1 : A.length + 1 = (A ++ [(.mk k t d ti a args cites kids : Inl)]).length := by simp
     rw [hl1]
     have hmono := (hleA.trans hleB).trans hleC
     have h1 := h1.mono hmono
     have hcut1' := hcut1
     have hli2 : InlsC uC (A ++ [(.mk k t d ti a args cites kids : Inl)]) _ := (hli.mono hmono).append (InlsC.one (InlC.mk' (vc := .slice ad1 _ cap1) (vp := .slice ad2 _ cap2) (va := .slice ad3 _ cap3) (vt := .slice ad4 _ cap4) (vk := .slice kad _ kcap) ⟨_, _, rfl, (q1.mono hleB).mono hleC⟩ ⟨_, _, rfl, (q2.mono hleB).mono hleC⟩ ⟨_, _, rfl, q3.mono hleC⟩ ⟨_, _, rfl, q4⟩ (s5.mono hmono) hok))
     refine Zbk Tryz.mixed rfl [] trivial ?_
     refine Zal 1 rfl (by kernel_rfl) (Ze (Zb (Zb (Ze (Zp))))) (Zap rfl rfl) rfl (Zal 2 rfl (by kernel_rfl) (Ze (Zb (Zb (Ze (Zp))))) (Zap rfl rfl) rfl ?_)
     refine Zal 3 rfl (by kernel_rfl) (Ze (Zb (Zb (Ze (Zp))))) (Zai rfl Tryz.s35 rfl rfl (by assumption) (by first | rfl | omega) (by omega)) rfl ?_
     refine Zal 4 rfl (by kernel_rfl) (Ze (Zb (Zb (Ze (Zp))))) (Zau rfl Tryz.f42' rfl (by decide) rfl) rfl ?_
     refine Zal 5 rfl (by kernel_rfl) (Ze (Zb (Zb (Ze (Zp))))) (Zag rfl Tryz.k35 rfl (by assumption) (by omega) (by assumption) (vs := [_]) rfl rfl rfl rfl) rfl ?_
     refine Zar (i := 0) rfl rfl (by kernel_rfl) ?_
     refine do_y (Zi rfl Tryz.k117 rfl rfl rfl (vs := [_]) rfl rfl rfl) rfl ?_
     refine Zar (i := 6) rfl rfl (by kernel_rfl) ?_
     refine Zaj (caps := [.pointer (some ⟨b3, 0, none⟩), .pointer (some ⟨b4, 0, none⟩)]) (ρ' := [(0, _), (1, _), (2, _), (7, _), (8, _)]) [1000, 1001, 1002] [] trivial rfl rfl rfl Tryz.c106 rfl rfl ⟨rfl, rfl, rfl, rfl, rfl, trivial⟩ rfl rfl rfl (FnO.mono (ih (szI kids) (by omega) _ kids (A ++ [Inl.mk k t d ti a args cites kids]) a2 c2 _ uC (Nat.le_refl _) (by simp; omega) hsmk (s5.mono hmono) hli2) ?_)
     rintro v uR l1 hleR ⟨rfl, a6, c6, l6, rfl, h6⟩ -
     refine ⟨⟨fun _ h => h, fun _ h => h, fun _ h => h, trivial⟩, ?_⟩
     refine Zbl (by kernel_rfl) (ρ' := [(0, _), (1, _), (2, _), (7, _), (8, _)]) ⟨rfl, rfl, rfl, rfl, rfl, trivial⟩ ?_
     refine Zah (Zc (Za (Zg (Zav rfl rfl rfl (Zs (by omega))) rfl ?_)))
     refine ym rfl rfl (Zf (ρ' := [(0, _), (1, _), (2, _), (7, _), (8, _)]) ⟨rfl, rfl, rfl, rfl, rfl, trivial⟩ ?_)
     refine Zab ?_
     refine ⟨m - 1, [(0, _), (1, _), (2, _), (7, _), (8, _)], [(1000, _), (1001, _), (1002, _)], by omega, ⟨rfl, rfl, rfl, rfl, rfl, trivial⟩, ⟨rfl, rfl, rfl, trivial⟩, i + 1, by omega, (hle1.trans (hmono.trans hleR)), a6, c6, l6, (by rw [hdt2]), (by first | rfl | simp), ?_⟩
     rw [hdt2]; exact h6
    refine Zaz rfl rfl ?_ ?_
    ·
     refine Zm ⟨rfl, trivial⟩ rfl Tryz.k35 rfl rfl rfl (vs := [_]) rfl rfl (by first | rfl | assumption | simp [Value.oneCell', str]) (Nat.le_of_ble_eq_true rfl) rfl ?_
     have hlA := hli.len
     refine Zar (i := 6) rfl rfl (by kernel_rfl) ?_
     refine do_store_w ⟨rfl, trivial⟩ rfl Tryz.k42 rfl rfl rfl (vs := [_, _, _, _, _, _, _, _, _, _]) rfl rfl (by simp [Value.oneCell', str]) (by simp; omega) (setAt_append (by omega) rfl) ?_
     refine Zbl (by kernel_rfl) (ρ' := [(0, _), (1, _), (2, _), (4, _), (7, _), (8, _)]) ⟨rfl, rfl, rfl, rfl, rfl, rfl, trivial⟩ ?_
     refine Zc ?_
     have hl1 : A.length + 1 = (A ++ [(.mk k t d ti a args cites kids : Inl)]).length := by simp
     rw [hl1]
     have hmono := (hleA.trans hleB).trans hleC
     have h1 := h1.mono hmono
     have hcut1' := hcut1
     have hli2 : InlsC uC (A ++ [(.mk k t d ti a args cites kids : Inl)]) _ := (hli.mono hmono).append (InlsC.one (InlC.mk' (vc := .slice ad1 _ cap1) (vp := .slice ad2 _ cap2) (va := .slice ad3 _ cap3) (vt := .slice ad4 _ cap4) (vk := .slice kad _ kcap) ⟨_, _, rfl, (q1.mono hleB).mono hleC⟩ ⟨_, _, rfl, (q2.mono hleB).mono hleC⟩ ⟨_, _, rfl, q3.mono hleC⟩ ⟨_, _, rfl, q4⟩ (s5.mono hmono) hok))
     refine Zbk Tryz.mixed rfl [] trivial ?_
     refine Zal 1 rfl (by kernel_rfl) (Ze (Zb (Zb (Ze (Zp))))) (Zap rfl rfl) rfl (Zal 2 rfl (by kernel_rfl) (Ze (Zb (Zb (Ze (Zp))))) (Zap rfl rfl) rfl ?_)
     refine Zal 3 rfl (by kernel_rfl) (Ze (Zb (Zb (Ze (Zp))))) (Zai rfl Tryz.s35 rfl rfl (by assumption) (by first | rfl | omega) (by omega)) rfl ?_
     refine Zal 4 rfl (by kernel_rfl) (Ze (Zb (Zb (Ze (Zp))))) (Zau rfl Tryz.f42' rfl (by decide) rfl) rfl ?_
     refine Zal 5 rfl (by kernel_rfl) (Ze (Zb (Zb (Ze (Zp))))) (Zag rfl Tryz.k35 rfl (by assumption) (by omega) (by assumption) (vs := [_]) rfl rfl rfl rfl) rfl ?_
     refine Zar (i := 0) rfl rfl (by kernel_rfl) ?_
     refine do_y (Zi rfl Tryz.k117 rfl rfl rfl (vs := [_]) rfl rfl rfl) rfl ?_
     refine Zar (i := 6) rfl rfl (by kernel_rfl) ?_
     refine Zaj (caps := [.pointer (some ⟨b3, 0, none⟩), .pointer (some ⟨b4, 0, none⟩)]) (ρ' := [(0, _), (1, _), (2, _), (7, _), (8, _)]) [1000, 1001, 1002] [] trivial rfl rfl rfl Tryz.c106 rfl rfl ⟨rfl, rfl, rfl, rfl, rfl, trivial⟩ rfl rfl rfl (FnO.mono (ih (szI kids) (by omega) _ kids (A ++ [Inl.mk k t d ti a args cites kids]) a2 c2 _ uC (Nat.le_refl _) (by simp; omega) hsmk (s5.mono hmono) hli2) ?_)
     rintro v uR l1 hleR ⟨rfl, a6, c6, l6, rfl, h6⟩ -
     refine ⟨⟨fun _ h => h, fun _ h => h, fun _ h => h, trivial⟩, ?_⟩
     refine Zbl (by kernel_rfl) (ρ' := [(0, _), (1, _), (2, _), (7, _), (8, _)]) ⟨rfl, rfl, rfl, rfl, rfl, trivial⟩ ?_
     refine Zah (Zc (Za (Zg (Zav rfl rfl rfl (Zs (by omega))) rfl ?_)))
     refine ym rfl rfl (Zf (ρ' := [(0, _), (1, _), (2, _), (7, _), (8, _)]) ⟨rfl, rfl, rfl, rfl, rfl, trivial⟩ ?_)
     refine Zab ?_
     refine ⟨m - 1, [(0, _), (1, _), (2, _), (7, _), (8, _)], [(1000, _), (1001, _), (1002, _)], by omega, ⟨rfl, rfl, rfl, rfl, rfl, trivial⟩, ⟨rfl, rfl, rfl, trivial⟩, i + 1, by omega, (hle1.trans (hmono.trans hleR)), a6, c6, l6, (by rw [hdt2]), (by first | rfl | simp), ?_⟩
     rw [hdt2]; exact h6
    exact Zbw
   refine Zaz rfl rfl ?_ ?_
   ·
    refine Zak ⟨rfl, trivial⟩ Tryz.s35 Tryz.z42 (ps := [(_, _)]) rfl (xs := [_, _, _, _, _, _, _, _, _, _]) rfl rfl rfl rfl rfl rfl rfl ?_
    refine Zar (i := 0) rfl rfl (by kernel_rfl) ?_
    refine do_y (Zi rfl Tryz.k35 rfl rfl rfl (vs := [_]) rfl rfl rfl) rfl ?_
    refine Zal 2 rfl (by kernel_rfl) (Zb (Ze (Zb (Zb (Ze (Zp)))))) (Zaq rfl rfl Tryz.s35 rfl) rfl ?_
    refine Zar (i := 4) rfl rfl (by kernel_rfl) ?_
    refine Zca 1002 ⟨rfl, trivial⟩ rfl rfl Tryz.s35 Tryz.z42 rfl rfl rfl rfl rfl rfl (by first | rfl | simp [Value.oneCell', str]) (by omega) (by omega) rfl rfl ?_
    intro a2 c2
    refine Zal 5 rfl (by kernel_rfl) (Zb (Ze (Zb (Zb (Ze (Zp)))))) (y_index_w 1002 rfl Tryz.s35 rfl rfl rfl (j := A.length) rfl (by omega)) rfl ?_
    refine ra_all (is := [6, 7]) (by kernel_rfl) rfl ?_
    refine Zaz rfl rfl ?_ ?_
    ·
     have hlA := hli.len
     refine do_store_w ⟨rfl, trivial⟩ rfl Tryz.k42 rfl rfl rfl (vs := [_, _, _, _, _, _, _, _, _, _]) rfl rfl (by simp [Value.oneCell', str]) (by simp; omega) (setAt_append (by omega) rfl) ?_
     refine Zar (i := 7) rfl rfl (by kernel_rfl) ?_
     refine Zm ⟨rfl, trivial⟩ rfl Tryz.k35 rfl rfl rfl (vs := [_]) rfl rfl (by first | rfl | assumption | simp [Value.oneCell', str]) (Nat.le_of_ble_eq_true rfl) rfl ?_
     refine Zbl (by kernel_rfl) (ρ' := [(0, _), (1, _), (2, _), (4, _), (7, _), (8, _)]) ⟨rfl, rfl, rfl, rfl, rfl, rfl, trivial⟩ ?_
     refine Zc ?_
     have hl1 : A.length + 1 = (A ++ [(.mk k t d ti a args cites kids : Inl)]).length := by simp
     rw [hl1]
     have hmono := (hleA.trans hleB).trans hleC
     have h1 := h1.mono hmono
     have hcut1' := hcut1
     have hli2 : InlsC uC (A ++ [(.mk k t d ti a args cites kids : Inl)]) _ := (hli.mono hmono).append (InlsC.one (InlC.mk' (vc := .slice ad1 _ cap1) (vp := .slice ad2 _ cap2) (va := .slice ad3 _ cap3) (vt := .slice ad4 _ cap4) (vk := .slice kad _ kcap) ⟨_, _, rfl, (q1.mono hleB).mono hleC⟩ ⟨_, _, rfl, (q2.mono hleB).mono hleC⟩ ⟨_, _, rfl, q3.mono hleC⟩ ⟨_, _, rfl, q4⟩ (s5.mono hmono) hok))
     refine Zbk Tryz.mixed rfl [] trivial ?_
     refine Zal 1 rfl (by kernel_rfl) (Ze (Zb (Zb (Ze (Zp))))) (Zap rfl rfl) rfl (Zal 2 rfl (by kernel_rfl) (Ze (Zb (Zb (Ze (Zp))))) (Zap rfl rfl) rfl ?_)
     refine Zal 3 rfl (by kernel_rfl) (Ze (Zb (Zb (Ze (Zp))))) (Zai rfl Tryz.s35 rfl rfl (by assumption) (by first | rfl | omega) (by omega)) rfl ?_
     refine Zal 4 rfl (by kernel_rfl) (Ze (Zb (Zb (Ze (Zp))))) (Zau rfl Tryz.f42' rfl (by decide) rfl) rfl ?_
     refine Zal 5 rfl (by kernel_rfl) (Ze (Zb (Zb (Ze (Zp))))) (Zag rfl Tryz.k35 rfl (by assumption) (by omega) (by assumption) (vs := [_]) rfl rfl rfl rfl) rfl ?_
     refine Zar (i := 0) rfl rfl (by kernel_rfl) ?_
     refine do_y (Zi rfl Tryz.k117 rfl rfl rfl (vs := [_]) rfl rfl rfl) rfl ?_
     refine Zar (i := 6) rfl rfl (by kernel_rfl) ?_
     refine Zaj (caps := [.pointer (some ⟨b3, 0, none⟩), .pointer (some ⟨b4, 0, none⟩)]) (ρ' := [(0, _), (1, _), (2, _), (7, _), (8, _)]) [1000, 1001, 1002] [] trivial rfl rfl rfl Tryz.c106 rfl rfl ⟨rfl, rfl, rfl, rfl, rfl, trivial⟩ rfl rfl rfl (FnO.mono (ih (szI kids) (by omega) _ kids (A ++ [Inl.mk k t d ti a args cites kids]) a2 c2 _ uC (Nat.le_refl _) (by simp; omega) hsmk (s5.mono hmono) hli2) ?_)
     rintro v uR l1 hleR ⟨rfl, a6, c6, l6, rfl, h6⟩ -
     refine ⟨⟨fun _ h => h, fun _ h => h, fun _ h => h, trivial⟩, ?_⟩
     refine Zbl (by kernel_rfl) (ρ' := [(0, _), (1, _), (2, _), (7, _), (8, _)]) ⟨rfl, rfl, rfl, rfl, rfl, trivial⟩ ?_
     refine Zah (Zc (Za (Zg (Zav rfl rfl rfl (Zs (by omega))) rfl ?_)))
     refine ym rfl rfl (Zf (ρ' := [(0, _), (1, _), (2, _), (7, _), (8, _)]) ⟨rfl, rfl, rfl, rfl, rfl, trivial⟩ ?_)
     refine Zab ?_
     refine ⟨m - 1, [(0, _), (1, _), (2, _), (7, _), (8, _)], [(1000, _), (1001, _), (1002, _)], by omega, ⟨rfl, rfl, rfl, rfl, rfl, trivial⟩, ⟨rfl, rfl, rfl, trivial⟩, i + 1, by omega, (hle1.trans (hmono.trans hleR)), a6, c6, l6, (by rw [hdt2]), (by first | rfl | simp), ?_⟩
     rw [hdt2]; exact h6
    refine Zaz rfl rfl ?_ ?_
    ·
     refine Zm ⟨rfl, trivial⟩ rfl Tryz.k35 rfl rfl rfl (vs := [_]) rfl rfl (by first | rfl | assumption | simp [Value.oneCell', str]) (Nat.le_of_ble_eq_true rfl) rfl ?_
     have hlA := hli.len
     refine Zar (i := 6) rfl rfl (by kernel_rfl) ?_
     refine do_store_w ⟨rfl, trivial⟩ rfl Tryz.k42 rfl rfl rfl (vs := [_, _, _, _, _, _, _, _, _, _]) rfl rfl (by simp [Value.oneCell', str]) (by simp; omega) (setAt_append (by omega) rfl) ?_
     refine Zbl (by kernel_rfl) (ρ' := [(0, _), (1, _), (2, _), (4, _), (7, _), (8, _)]) ⟨rfl, rfl, rfl, rfl, rfl, rfl, trivial⟩ ?_
     refine Zc ?_
     have hl1 : A.length + 1 = (A ++ [(.mk k t d ti a args cites kids : Inl)]).length := by simp
     rw [hl1]
     have hmono := (hleA.trans hleB).trans hleC
     have h1 := h1.mono hmono
     have hcut1' := hcut1
     have hli2 : InlsC uC (A ++ [(.mk k t d ti a args cites kids : Inl)]) _ := (hli.mono hmono).append (InlsC.one (InlC.mk' (vc := .slice ad1 _ cap1) (vp := .slice ad2 _ cap2) (va := .slice ad3 _ cap3) (vt := .slice ad4 _ cap4) (vk := .slice kad _ kcap) ⟨_, _, rfl, (q1.mono hleB).mono hleC⟩ ⟨_, _, rfl, (q2.mono hleB).mono hleC⟩ ⟨_, _, rfl, q3.mono hleC⟩ ⟨_, _, rfl, q4⟩ (s5.mono hmono) hok))
     refine Zbk Tryz.mixed rfl [] trivial ?_
     refine Zal 1 rfl (by kernel_rfl) (Ze (Zb (Zb (Ze (Zp))))) (Zap rfl rfl) rfl (Zal 2 rfl (by kernel_rfl) (Ze (Zb (Zb (Ze (Zp))))) (Zap rfl rfl) rfl ?_)
     refine Zal 3 rfl (by kernel_rfl) (Ze (Zb (Zb (Ze (Zp))))) (Zai rfl Tryz.s35 rfl rfl (by assumption) (by first | rfl | omega) (by omega)) rfl ?_
     refine Zal 4 rfl (by kernel_rfl) (Ze (Zb (Zb (Ze (Zp))))) (Zau rfl Tryz.f42' rfl (by decide) rfl) rfl ?_
     refine Zal 5 rfl (by kernel_rfl) (Ze (Zb (Zb (Ze (Zp))))) (Zag rfl Tryz.k35 rfl (by assumption) (by omega) (by assumption) (vs := [_]) rfl rfl rfl rfl) rfl ?_
     refine Zar (i := 0) rfl rfl (by kernel_rfl) ?_
     refine do_y (Zi rfl Tryz.k117 rfl rfl rfl (vs := [_]) rfl rfl rfl) rfl ?_
     refine Zar (i := 6) rfl rfl (by kernel_rfl) ?_
     refine Zaj (caps := [.pointer (some ⟨b3, 0, none⟩), .pointer (some ⟨b4, 0, none⟩)]) (ρ' := [(0, _), (1, _), (2, _), (7, _), (8, _)]) [1000, 1001, 1002] [] trivial rfl rfl rfl Tryz.c106 rfl rfl ⟨rfl, rfl, rfl, rfl, rfl, trivial⟩ rfl rfl rfl (FnO.mono (ih (szI kids) (by omega) _ kids (A ++ [Inl.mk k t d ti a args cites kids]) a2 c2 _ uC (Nat.le_refl _) (by simp; omega) hsmk (s5.mono hmono) hli2) ?_)
     rintro v uR l1 hleR ⟨rfl, a6, c6, l6, rfl, h6⟩ -
     refine ⟨⟨fun _ h => h, fun _ h => h, fun _ h => h, trivial⟩, ?_⟩
     refine Zbl (by kernel_rfl) (ρ' := [(0, _), (1, _), (2, _), (7, _), (8, _)]) ⟨rfl, rfl, rfl, rfl, rfl, trivial⟩ ?_
     refine Zah (Zc (Za (Zg (Zav rfl rfl rfl (Zs (by omega))) rfl ?_)))
     refine ym rfl rfl (Zf (ρ' := [(0, _), (1, _), (2, _), (7, _), (8, _)]) ⟨rfl, rfl, rfl, rfl, rfl, trivial⟩ ?_)
     refine Zab ?_
     refine ⟨m - 1, [(0, _), (1, _), (2, _), (7, _), (8, _)], [(1000, _), (1001, _), (1002, _)], by omega, ⟨rfl, rfl, rfl, rfl, rfl, trivial⟩, ⟨rfl, rfl, rfl, trivial⟩, i + 1, by omega, (hle1.trans (hmono.trans hleR)), a6, c6, l6, (by rw [hdt2]), (by first | rfl | simp), ?_⟩
     rw [hdt2]; exact h6
    exact Zbw
   exact Zbw
  ·
   refine Zax ?_
   refine Zq (Zq ?_)
   refine Zaf ?_
   refine finO0n [1000, 1001, 1002]  rfl rfl ?_
   have hge := of_decide_eq_false hb1
   rw [List.take_of_length_le (by omega)] at hli ⊢
   exact ⟨rfl, _, _, _, rfl, hli⟩
abbrev visB (b4 b5 : Nat) : Value := .func (.func 110) #[] #[.pointer (some ⟨b4, 0, none⟩), .pointer (some ⟨b5, 0, none⟩)]
theorem inls_append (xs ys : List Blk) : inls (xs ++ ys) = inls xs ++ inls ys := by simp [inls]
theorem inlsB_take {bs : List Blk} {i : Nat} {k lv : Int} {inf t d ti : Bs} {a : DAttr} {line : List Inl} {kids : List Blk} (h : bs[i]? = some (.mk k lv inf t d ti a line kids)) :
  inls (listB (bs.take (i + 1))) = inls (listB (bs.take i)) ++ (deep line ++ inls (listB kids)) := by
 rw [listB_take h, inls_append]
 simp [listb, inls, lineOf]
theorem inlsB_len (bs : List Blk) : (inls (listB bs)).length ≤ szB bs := by
 rw [inls_len]
 exact szL_listB bs
set_option maxHeartbeats 4000000 in
theorem visB_fn (b3 b4 b5 : Nat) (n : Nat) : ∀ (v : Value) (bs : List Blk) (out : List Inl) (ao : Option Addr) (co : Nat) (acc : List Value) (u : View), szB bs ≤ n → out.length + szB bs ≤ 100000 → smB bs → BlkS u v bs → InlsC u out acc →
  FnO Tryz.prog 110 [v, .pointer (some ⟨b4, 0, none⟩), .pointer (some ⟨b5, 0, none⟩)] u [(some b3, .box [.slice ao out.length co]), (some b4, .box [visI b3 b4]), (some b5, .box [visB b4 b5]), (none, .rwv (.slice ao out.length co) 42 10 out.length acc)]
   fun r u' l' => r = .tuple #[] ∧ ∃ ao' co' acc', l' = [(some b3, .box [.slice ao' (out ++ inls (listB bs)).length co']), (some b4, .box [visI b3 b4]), (some b5, .box [visB b4 b5]), (none, .rwv (.slice ao' (out ++ inls (listB bs)).length co') 42 10 (out ++ inls (listB bs)).length acc')] ∧ InlsC u' (out ++ inls (listB bs)) acc' := by
 induction n using Nat.strongRecOn with
 | _ n ih =>
 intro v bs out ao co acc u hsz hbig hsm ha hacc
 have hlx := len_szB bs
 obtain ⟨cs, ⟨ad, cap, rfl, h1⟩, hc1⟩ := ha
 refine FnO.intro [] Tryz.func110 rfl rfl rfl ?_
 intro w0 D hw0
 refine Zco 1 1001 _ 0 rfl rfl ?_
 refine Zco 2 1002 _ 0 rfl rfl ?_
 refine Zd (Za (ym rfl rfl (Zg (Zaq rfl rfl Tryz.s23 rfl) rfl (ym rfl rfl (Zf (ρ' := [(0, _), (1, _), (2, _), (6, _), (7, _)]) ⟨rfl, rfl, rfl, rfl, rfl, trivial⟩ ?_)))))
 refine Zc (Zad ?_)
 refine Zbc (fun m ρ σ u' => ∃ i : Nat, i + m = bs.length ∧ VLe u u' ∧ ∃ (ai : Option Addr) (ci : Nat) (li : List Value), σ = [(1000, (some b3, .box [.slice ai (out ++ inls (listB (bs.take i))).length ci])), (1001, (some b4, .box [visI b3 b4])), (1002, (some b5, .box [visB b4 b5])), (1003, (none, .rwv (.slice ai (out ++ inls (listB (bs.take i))).length ci) 42 10 (out ++ inls (listB (bs.take i))).length li))] ∧ ρ = [(0, .v (.slice ad bs.length cap)), (1, .p 1001 0), (2, .p 1002 0), (6, .v (.int .i64 bs.length)), (7, .v (.int .i64 i))] ∧ (InlsC u' (out ++ inls (listB (bs.take i))) li)) (bs.length) ?_ ?_
 ·
  refine ⟨[(0, _), (1, _), (2, _), (6, _), (7, _)], [(1000, _), (1001, _), (1002, _), (1003, _)], ⟨rfl, rfl, rfl, rfl, rfl, trivial⟩, ⟨rfl, rfl, rfl, rfl, trivial⟩, 0, by omega, VLe.refl _, ao, co, acc, (by simp [listB, inls]), rfl, ?_⟩
  simpa [listB, inls] using hacc
 ·
  rintro m ρ σ u' ⟨i, hi1, hle1, ai, ci, li, rfl, rfl, hli⟩
  refine Zd (Za (Zg (Zbn rfl rfl rfl) rfl (Zf (ρ' := [(0, _), (1, _), (2, _), (6, _), (7, _), (8, _)]) ⟨rfl, rfl, rfl, rfl, rfl, rfl, trivial⟩ ?_)))
  refine Zc (Zd ?_)
  refine Zo rfl (fun hb1 => ?_) (fun hb1 => ?_)
  ·
   refine Zr (Zc (Zd (Zad (Zd (Za (ym rfl rfl (ya rfl rfl (Zf (ρ' := [(0, _), (1, _), (2, _), (4, _), (6, _), (7, _)]) ⟨rfl, rfl, rfl, rfl, rfl, rfl, trivial⟩ ?_))))))))
   refine Zc (Zd ?_)
   have hlt : i < bs.length := by have := of_decide_eq_true hb1; omega
   have h1 := h1.mono hle1
   obtain ⟨k, lv, inf, t, d, ti, a, line, kids, vc, vp, vl, vk, hg, hcut1, s1, s2, s3, s4, hok⟩ := (hc1.mono hle1).at hlt
   have oneAll := ((hc1.mono hle1).get i _ hg).one
   rw [hcut1] at oneAll
   have hsm1 := smB_get hsm hg
   unfold smB1 at hsm1
   have hszk := szB_kids hg
   have htg := szB_take_get hg
   simp only [szb] at htg
   have hdt := inlsB_take hg
   have hil := inlsB_len (bs.take i)
   have hAl : (out ++ inls (listB (bs.take i))).length ≤ out.length + szB (bs.take i) := by simp; omega
   have hdt2 : out ++ inls (listB (bs.take (i + 1))) = (out ++ inls (listB (bs.take i)) ++ deep line) ++ inls (listB kids) := by rw [hdt]; simp
   generalize out ++ inls (listB (bs.take i)) = A at *
   have hdl := deep_len line
   refine Zbk Tryz.mixed rfl [] trivial ?_
   refine Zal 1 rfl (by kernel_rfl) (Zb (Ze (Zb (Zb (Ze (Zp)))))) (Zap rfl rfl) rfl (Zal 2 rfl (by kernel_rfl) (Zb (Ze (Zb (Zb (Ze (Zp)))))) (Zap rfl rfl) rfl ?_)
   refine Zal 3 rfl (by kernel_rfl) (Zb (Ze (Zb (Zb (Ze (Zp)))))) (Zai rfl Tryz.s23 rfl rfl (by assumption) (by first | rfl | omega) (by omega)) rfl ?_
   refine Zal 4 rfl (by kernel_rfl) (Zb (Ze (Zb (Zb (Ze (Zp)))))) (Zau rfl Tryz.f59' rfl (by decide) rfl) rfl ?_
   refine Zal 5 rfl (by kernel_rfl) (Zb (Ze (Zb (Zb (Ze (Zp)))))) (Zag rfl Tryz.k35 rfl (by assumption) (by omega) (by assumption) (vs := [_]) rfl rfl rfl rfl) rfl ?_
   refine Zar (i := 0) rfl rfl (by kernel_rfl) ?_
   refine do_y (Zi rfl Tryz.k117 rfl rfl rfl (vs := [_]) rfl rfl rfl) rfl ?_
   refine Zar (i := 6) rfl rfl (by kernel_rfl) ?_
   refine Zaj (caps := [.pointer (some ⟨b3, 0, none⟩), .pointer (some ⟨b4, 0, none⟩)]) (ρ' := [(0, _), (1, _), (2, _), (4, _), (6, _), (7, _)]) [1000, 1001, 1003] [] trivial rfl rfl rfl Tryz.c106 rfl rfl ⟨rfl, rfl, rfl, rfl, rfl, rfl, trivial⟩ rfl rfl rfl (FnO.mono (visI_fn b3 b4 (szI line) vl line A ai ci li u' (Nat.le_refl _) (by omega) hsm1.2.2.2.2.1 s3 hli) ?_)
   rintro v uI l1 hleI ⟨rfl, a6, c6, l6, rfl, h6⟩ -
   refine ⟨⟨fun _ h => h, fun _ h => h, fun _ h => h, trivial⟩, ?_⟩
   refine Zbl (by kernel_rfl) (ρ' := [(0, _), (1, _), (2, _), (4, _), (6, _), (7, _)]) ⟨rfl, rfl, rfl, rfl, rfl, rfl, trivial⟩ ?_
   refine Zc ?_
   have h1 := h1.mono hleI
   refine Zbk Tryz.mixed rfl [] trivial ?_
   refine Zal 1 rfl (by kernel_rfl) (Ze (Zb (Zb (Ze (Zp))))) (Zap rfl rfl) rfl (Zal 2 rfl (by kernel_rfl) (Ze (Zb (Zb (Ze (Zp))))) (Zap rfl rfl) rfl ?_)
   refine Zal 3 rfl (by kernel_rfl) (Ze (Zb (Zb (Ze (Zp))))) (Zai rfl Tryz.s23 rfl rfl (by assumption) (by first | rfl | omega) (by omega)) rfl ?_
   refine Zal 4 rfl (by kernel_rfl) (Ze (Zb (Zb (Ze (Zp))))) (Zau rfl Tryz.f59' rfl (by decide) rfl) rfl ?_
   refine Zal 5 rfl (by kernel_rfl) (Ze (Zb (Zb (Ze (Zp))))) (Zag rfl Tryz.k23 rfl (by assumption) (by omega) (by assumption) (vs := [_]) rfl rfl rfl rfl) rfl ?_
   refine Zar (i := 0) rfl rfl (by kernel_rfl) ?_
   refine do_y (Zi rfl Tryz.k83 rfl rfl rfl (vs := [_]) rfl rfl rfl) rfl ?_
   refine Zar (i := 6) rfl rfl (by kernel_rfl) ?_
   refine Zaj (caps := [.pointer (some ⟨b4, 0, none⟩), .pointer (some ⟨b5, 0, none⟩)]) (ρ' := [(0, _), (1, _), (2, _), (6, _), (7, _)]) [1000, 1001, 1002, 1003] [] trivial rfl rfl rfl Tryz.c110 rfl rfl ⟨rfl, rfl, rfl, rfl, rfl, trivial⟩ rfl rfl rfl (FnO.mono (ih (szB kids) (by omega) vk kids (A ++ deep line) a6 c6 l6 uI (Nat.le_refl _) (by simp; omega) hsm1.2.2.2.2.2 (s4.mono hleI) h6) ?_)
   rintro v uK l1 hleK ⟨rfl, a7, c7, l7, rfl, h7⟩ -
   refine ⟨⟨fun _ h => h, fun _ h => h, fun _ h => h, fun _ h => h, trivial⟩, ?_⟩
   refine Zbl (by kernel_rfl) (ρ' := [(0, _), (1, _), (2, _), (6, _), (7, _)]) ⟨rfl, rfl, rfl, rfl, rfl, trivial⟩ ?_
   refine Zah (Zc (Za (Zg (Zav rfl rfl rfl (Zs (by omega))) rfl ?_)))
   refine ym rfl rfl (Zf (ρ' := [(0, _), (1, _), (2, _), (6, _), (7, _)]) ⟨rfl, rfl, rfl, rfl, rfl, trivial⟩ ?_)
   refine Zab ?_
   refine ⟨m - 1, [(0, _), (1, _), (2, _), (6, _), (7, _)], [(1000, _), (1001, _), (1002, _), (1003, _)], by omega, ⟨rfl, rfl, rfl, rfl, rfl, trivial⟩, ⟨rfl, rfl, rfl, rfl, trivial⟩, i + 1, by omega, (hle1.trans (hleI.trans hleK)), a7, c7, l7, (by rw [hdt2]), (by first | rfl | simp), ?_⟩
   rw [hdt2]; exact h7
  ·
   refine Zax ?_
   refine Zq (Zq ?_)
   refine Zaf ?_
   refine finO0n [1000, 1001, 1002, 1003]  rfl rfl ?_
   have hge := of_decide_eq_false hb1
   rw [List.take_of_length_le (by omega)] at hli ⊢
   exact ⟨rfl, _, _, _, rfl, hli⟩
theorem treeInlines_fn (v : Value) (bs : List Blk) (u : View) (hbig : szB bs ≤ 100000) (hsm : smB bs) (ha : BlkS u v bs) : FnP Tryz.prog 82 [v] u fun r u' => InlS u' r (inls (listB bs)) := by
 refine FnP.intro [.tmp 2] Tryz.func82 rfl rfl rfl ?_
 intro w0 D hw0
 refine Zd (Za (ya rfl rfl (Zf (ρ' := [(0, _)]) ⟨rfl, trivial⟩ ?_)))
 refine Zc (Zd (Za (Zv rfl rfl ?_)))
 refine Zas trivial Tryz.z35 rfl rfl rfl ?_
 refine Zf (ρ' := [(0, _), (3, _)]) ⟨rfl, rfl, trivial⟩ ?_
 refine Zc (Zd (Za (Zv rfl rfl ?_)))
 refine Zas trivial Tryz.z117 rfl rfl rfl ?_
 refine Zf (ρ' := [(0, _), (3, _), (4, _)]) ⟨rfl, rfl, rfl, trivial⟩ ?_
 refine Zc (Zd (Za ?_))
 refine Zbz 3 rfl ⟨3, _, .inl rfl⟩ ?_
 intro b3
 refine Zbz 4 rfl ⟨4, _, .inl rfl⟩ ?_
 intro b4
 refine Zg (Zbt rfl rfl rfl) rfl (Zv rfl rfl ?_)
 refine Zm trivial rfl Tryz.k117 rfl rfl rfl (vs := [_]) rfl rfl (by first | rfl | assumption | simp [Value.oneCell', str]) (Nat.le_of_ble_eq_true rfl) rfl ?_
 refine Zf (ρ' := [(0, _), (3, _), (4, _)]) ⟨rfl, rfl, rfl, trivial⟩ ?_
 refine Zc (Zd (Za (Zv rfl rfl ?_)))
 refine Zas trivial Tryz.z83 rfl rfl rfl ?_
 refine Zf (ρ' := [(0, _), (3, _), (4, _), (5, _)]) ⟨rfl, rfl, rfl, rfl, trivial⟩ ?_
 refine Zc (Zd (Za ?_))
 refine Zbz 5 rfl ⟨5, _, .inl rfl⟩ ?_
 intro b5
 refine Zg (Zbt rfl rfl rfl) rfl (Zv rfl rfl ?_)
 refine Zm trivial rfl Tryz.k83 rfl rfl rfl (vs := [_]) rfl rfl (by first | rfl | assumption | simp [Value.oneCell', str]) (Nat.le_of_ble_eq_true rfl) rfl ?_
 refine Zf (ρ' := [(0, _), (3, _), (5, _)]) ⟨rfl, rfl, rfl, trivial⟩ ?_
 refine Zc (Zd (Za (Zg (Zi rfl Tryz.k83 rfl rfl rfl (vs := [_]) rfl rfl rfl) rfl (ym rfl rfl ?_))))
 refine rl_nilW 600 42 10 rfl rfl ?_
 refine Zv rfl rfl ?_
 refine Zaj (caps := [.pointer (some ⟨b4, 0, none⟩), .pointer (some ⟨b5, 0, none⟩)]) (ρ' := [(3, _)]) [3, 4, 5, 600] [] trivial rfl rfl rfl Tryz.c110 rfl rfl ⟨rfl, trivial⟩ rfl rfl rfl (FnO.mono (visB_fn b3 b4 b5 (szB bs) v bs [] none 0 [] u (Nat.le_refl _) (by simp; omega) hsm ha InlsC.nil) ?_)
 rintro v u1 l1 hle1 ⟨rfl, a7, c7, l7, rfl, h7⟩ -
 refine ⟨⟨fun _ h => h, fun _ h => h, fun _ h => h, fun _ h => h, trivial⟩, ?_⟩
 refine Zf (ρ' := [(3, _)]) ⟨rfl, trivial⟩ ?_
 refine Zc (Zd (Za (Zg (Zi rfl Tryz.k35 rfl rfl rfl (vs := [_]) rfl rfl rfl) rfl ?_)))
 refine rl_freezeW 600 rfl ?_
 intro uF hleF hF
 refine ya rfl rfl (Zf (ρ' := [(2, _)]) ⟨rfl, trivial⟩ ?_)
 refine Zc (Zw (Zbe (.tmp rfl) ?_))
 exact ⟨_, hF, h7.mono hleF⟩
abbrev FgP := List Blk → (Nat → Prop) → (World → Prop) → Prop
def RoundsB (L : Nat) (u : View) (Y : FgP) : Prop :=
 ∀ pre H I, Y pre H I → ∀ u' x cs, VLe u u' → BlkC u' x cs → YldO Tryz.prog L [.agg cs.toArray] u' [(none, .fg H I)] fun r u'' l' => r = .bool true ∧ ∃ H' I', l' = [(none, .fg H' I')] ∧ Y (pre ++ [x]) H' I'
theorem RoundsB.mono {L : Nat} {u u' : View} {Y : FgP} (h : RoundsB L u Y) (hu : VLe u u') : RoundsB L u' Y := fun pre H I hY u2 x cs hv hc => h pre H I hY u2 x cs (hu.trans hv) hc
abbrev eachV (b2 b3 : Nat) : Value := .func (.func 105) #[] #[.pointer (some ⟨b2, 0, none⟩), .pointer (some ⟨b3, 0, none⟩)]
abbrev yldV (L : Nat) : Value := .func (.yield L) #[] #[]
set_option maxHeartbeats 4000000 in
theorem eachRec_fn (b2 b3 L : Nat) (Y : FgP) (n : Nat) : ∀ (v : Value) (bs : List Blk) (pre : List Blk) (H : Nat → Prop) (I : World → Prop) (u : View), szB bs ≤ n → szB bs ≤ 100000 → BlkS u v bs → RoundsB L u Y → Y pre H I →
  FnO Tryz.prog 105 [v, .pointer (some ⟨b2, 0, none⟩), .pointer (some ⟨b3, 0, none⟩)] u [(some b2, .box [yldV L]), (some b3, .box [eachV b2 b3]), (none, .fg H I)]
   fun r u' l' => r = .bool true ∧ ∃ H' I', l' = [(some b2, .box [yldV L]), (some b3, .box [eachV b2 b3]), (none, .fg H' I')] ∧ Y (pre ++ listB bs) H' I' := by
 induction n using Nat.strongRecOn with
 | _ n ih =>
 intro v bs pre H I u hsz hbig ha hR hY
 have hlx := len_szB bs
 obtain ⟨cs, ⟨ad, cap, rfl, h1⟩, hc1⟩ := ha
 refine FnO.intro [.tmp 4] Tryz.func105 rfl rfl rfl ?_
 intro w0 D hw0
 refine Zco 1 1000 _ 0 rfl rfl ?_
 refine Zco 2 1001 _ 0 rfl rfl ?_
 refine Zd (Za (ya rfl rfl (Zf (ρ' := [(0, _), (1, _), (2, _)]) ⟨rfl, rfl, rfl, trivial⟩ ?_)))
 refine Zc (Zd (Zd (Za (ym rfl rfl (Zg (Zaq rfl rfl Tryz.s23 rfl) rfl (ym rfl rfl (Zf (ρ' := [(0, _), (1, _), (2, _), (7, _), (8, _)]) ⟨rfl, rfl, rfl, rfl, rfl, trivial⟩ ?_)))))))
 refine Zc (Zad ?_)
 refine Zbc (fun m ρ σ u' => ∃ i : Nat, i + m = bs.length ∧ VLe u u' ∧ ∃ (Hi : Nat → Prop) (Ii : World → Prop), σ = [(1000, (some b2, .box [yldV L])), (1001, (some b3, .box [eachV b2 b3])), (1002, (none, .fg Hi Ii))] ∧ ρ = [(0, .v (.slice ad bs.length cap)), (1, .p 1000 0), (2, .p 1001 0), (7, .v (.int .i64 bs.length)), (8, .v (.int .i64 i))] ∧ (Y (pre ++ listB (bs.take i)) Hi Ii)) (bs.length) ?_ ?_
 ·
  refine ⟨[(0, _), (1, _), (2, _), (7, _), (8, _)], [(1000, _), (1001, _), (1002, _)], ⟨rfl, rfl, rfl, rfl, rfl, trivial⟩, ⟨rfl, rfl, rfl, trivial⟩, 0, by omega, VLe.refl _, H, I, rfl, rfl, ?_⟩
  simpa [listB] using hY
 ·
  rintro m ρ σ u' ⟨i, hi2, hle2, Hi, Ii, rfl, rfl, hYi⟩
  refine Zd (Za (Zg (Zbn rfl rfl rfl) rfl (Zf (ρ' := [(0, _), (1, _), (2, _), (7, _), (8, _), (9, _)]) ⟨rfl, rfl, rfl, rfl, rfl, rfl, trivial⟩ ?_)))
  refine Zc (Zd ?_)
  refine Zo rfl (fun hb2 => ?_) (fun hb2 => ?_)
  ·
   refine Zr (Zc (Zd (Zad (Zd (Za (ym rfl rfl (ya rfl rfl (Zf (ρ' := [(0, _), (1, _), (2, _), (5, _), (7, _), (8, _)]) ⟨rfl, rfl, rfl, rfl, rfl, rfl, trivial⟩ ?_))))))))
   refine Zc (Zd ?_)
   have hlt : i < bs.length := by have := of_decide_eq_true hb2; omega
   have h1 := h1.mono hle2
   obtain ⟨k, lv, inf, t, d, ti, a, line, kids, vc, vp, vl, vk, hg, hcut1, s1, s2, s3, s4, hok⟩ := (hc1.mono hle2).at hlt
   have hbc := (hc1.mono hle2).get i _ hg
   rw [hcut1] at hbc
   have oneAll := hbc.one
   have hszk := szB_kids hg
   have hdt : pre ++ listB (bs.take (i + 1)) = (pre ++ listB (bs.take i) ++ [.mk k lv inf t d ti a line kids]) ++ listB kids := by rw [listB_take hg]; simp [listb]
   refine wc_drawI Tryz.mixed ?_
   refine ri_y (i := 1) rfl rfl (by kernel_rfl) (by kernel_rfl) (by kernel_rfl) (Zb (Ze (Zb (Zb (Ze (Zb (Zp))))))) (fun _ _ => rfl) (Zap rfl rfl) rfl ?_
   refine ri_y (i := 2) rfl rfl (by kernel_rfl) (by kernel_rfl) (by kernel_rfl) (Zb (Ze (Zb (Zb (Ze (Zb (Zp))))))) (fun _ _ => rfl) (Zap rfl rfl) rfl ?_
   refine ri_y (i := 3) rfl rfl (by kernel_rfl) (by kernel_rfl) (by kernel_rfl) (Zb (Ze (Zb (Zb (Ze (Zb (Zp))))))) (fun _ _ => rfl) (y_index_eX rfl Tryz.s23 rfl rfl (by assumption) (by first | rfl | omega) (by omega)) rfl ?_
   refine ri_all (is := [0, 4]) (by kernel_rfl) rfl ?_
   refine riall_cons rfl rfl ?_ ?_
   ·
    refine Does.toI (by simp) ?_
    refine do_y (Zi rfl Tryz.k64 rfl rfl rfl (vs := [_]) rfl rfl rfl) rfl ?_
    refine ri_do (i := 4) rfl rfl (by kernel_rfl) ?_
    refine Does.toI (by simp) ?_
    refine do_y (Zag rfl Tryz.k59 rfl (by assumption) (by omega) (by assumption) (vs := [_, _, _, _, _, _, _, _, _, _, _]) rfl rfl rfl rfl) rfl ?_
    refine ri_do (i := 5) rfl rfl (by kernel_rfl) ?_
    refine do_yield (ρ' := [(0, _), (1, _), (2, _), (5, _), (7, _), (8, _)]) [1002] [] rfl rfl rfl rfl rfl ⟨rfl, rfl, rfl, rfl, rfl, rfl, trivial⟩ rfl rfl rfl (YldO.mono (hR.mono hle2 _ _ _ hYi u' _ _ (VLe.refl _) hbc) ?_)
    rintro v uY l1 hleY ⟨rfl, H2, I2, rfl, hY2⟩ -
    refine ⟨⟨fun _ h => h, trivial⟩, ?_⟩
    have h1 := h1.mono hleY
    refine ri_y (i := 6) rfl rfl (by kernel_rfl) (by kernel_rfl) (by kernel_rfl) (Zb (Ze (Zb (Zb (Ze (Zb (Zp))))))) (fun _ _ => rfl) (Zbr rfl rfl) rfl ?_
    refine ri_y (i := 7) rfl rfl (by kernel_rfl) (by kernel_rfl) (by kernel_rfl) (Zb (Ze (Zb (Zb (Ze (Zb (Zp))))))) (fun _ _ => rfl) (Zap rfl rfl) rfl ?_
    refine ri_y_on (i := 9) rfl rfl rfl rfl (by kernel_rfl) (by kernel_rfl) (by kernel_rfl) (Zb (Ze (Zb (Zb (Ze (Zb (Zp))))))) (fun _ _ => rfl) (Zap rfl rfl) rfl ?_
    refine ri_y_on (i := 10) rfl rfl rfl rfl (by kernel_rfl) (by kernel_rfl) (by kernel_rfl) (Zb (Ze (Zb (Zb (Ze (Zb (Zp))))))) (fun _ _ => rfl) (Zap rfl rfl) rfl ?_
    refine ri_y_on (i := 11) rfl rfl rfl rfl (by kernel_rfl) (by kernel_rfl) (by kernel_rfl) (Zb (Ze (Zb (Zb (Ze (Zb (Zp))))))) (fun _ _ => rfl) (y_index_eX rfl Tryz.s23 rfl rfl (by assumption) (by first | rfl | omega) (by omega)) rfl ?_
    refine ri_y_on (i := 12) rfl rfl rfl rfl (by kernel_rfl) (by kernel_rfl) (by kernel_rfl) (Zb (Ze (Zb (Zb (Ze (Zb (Zp))))))) (fun _ _ => rfl) (Zau rfl Tryz.f59' rfl (by decide) rfl) rfl ?_
    refine ri_all (is := [8, 13]) (by kernel_rfl) rfl ?_
    refine Zct rfl rfl rfl (by simp) ?_ ?_
    ·
     refine Does.toI (by simp) ?_
     refine do_y (Zi rfl Tryz.k150 rfl rfl rfl (vs := [_]) rfl rfl rfl) rfl ?_
     refine ri_do_on (i := 13) rfl rfl rfl (by kernel_rfl) (by simp) ?_
     refine Does.toI (by simp) ?_
     refine do_y (Zag rfl Tryz.k23 rfl (by assumption) (by omega) (by assumption) (vs := [_]) rfl rfl rfl rfl) rfl ?_
     refine ri_do_on (i := 14) rfl rfl rfl (by kernel_rfl) (by simp) ?_
     refine Does.toI (by simp) ?_
     refine Zaj (caps := [.pointer (some ⟨b2, 0, none⟩), .pointer (some ⟨b3, 0, none⟩)]) (ρ' := [(0, _), (1, _), (2, _), (7, _), (8, _), (18, _)]) [1000, 1001, 1002] [] trivial rfl rfl rfl Tryz.c105 rfl rfl ⟨rfl, rfl, rfl, rfl, rfl, rfl, trivial⟩ rfl rfl rfl (FnO.mono (ih (szB kids) (by omega) vk kids _ H2 I2 uY (Nat.le_refl _) (by omega) (s4.mono hleY) (hR.mono (hle2.trans hleY)) hY2) ?_)
     rintro v uK l1 hleK ⟨rfl, H3, I3, rfl, hY3⟩ -
     refine ⟨⟨fun _ h => h, fun _ h => h, fun _ h => h, trivial⟩, ?_⟩
     refine ri_y_on (i := 15) rfl rfl rfl rfl (by kernel_rfl) (by kernel_rfl) (by kernel_rfl) (Zb (Ze (Zb (Zb (Ze (Zb (Zp))))))) (fun _ _ => rfl) (Zbr rfl rfl) rfl ?_
     refine ri_y (i := 16) rfl rfl (by kernel_rfl) (by kernel_rfl) (by kernel_rfl) (Zb (Ze (Zb (Zb (Ze (Zb (Zp))))))) (fun _ _ => rfl) (Zn rfl rfl rfl) rfl ?_
     refine ri_end (by kernel_rfl) (ρ' := [(0, _), (1, _), (2, _), (7, _), (8, _), (27, _)]) ⟨rfl, rfl, rfl, rfl, rfl, rfl, trivial⟩ ?_
     refine Zc (Zce rfl (rfl) (Zr (Zah (Zc (Za (Zg (Zav rfl rfl rfl (Zs (by omega))) rfl ?_))))))
     refine ym rfl rfl (Zf (ρ' := [(0, _), (1, _), (2, _), (7, _), (8, _)]) ⟨rfl, rfl, rfl, rfl, rfl, trivial⟩ ?_)
     refine Zab ?_
     refine ⟨m - 1, [(0, _), (1, _), (2, _), (7, _), (8, _)], [(1000, _), (1001, _), (1002, _)], by omega, ⟨rfl, rfl, rfl, rfl, rfl, trivial⟩, ⟨rfl, rfl, rfl, trivial⟩, i + 1, by omega, (hle2.trans (hleY.trans hleK)), H3, I3, rfl, (by first | rfl | simp), ?_⟩
     rw [hdt]; exact hY3
    refine Zct rfl rfl rfl (by simp) ?_ ?_
    ·
     refine Does.toI (by simp) ?_
     refine do_y (Zag rfl Tryz.k23 rfl (by assumption) (by omega) (by assumption) (vs := [_]) rfl rfl rfl rfl) rfl ?_
     refine ri_do_on (i := 8) rfl rfl rfl (by kernel_rfl) (by simp) ?_
     refine Does.toI (by simp) ?_
     refine do_y (Zi rfl Tryz.k150 rfl rfl rfl (vs := [_]) rfl rfl rfl) rfl ?_
     refine ri_do_on (i := 14) rfl rfl rfl (by kernel_rfl) (by simp) ?_
     refine Does.toI (by simp) ?_
     refine Zaj (caps := [.pointer (some ⟨b2, 0, none⟩), .pointer (some ⟨b3, 0, none⟩)]) (ρ' := [(0, _), (1, _), (2, _), (7, _), (8, _), (18, _)]) [1000, 1001, 1002] [] trivial rfl rfl rfl Tryz.c105 rfl rfl ⟨rfl, rfl, rfl, rfl, rfl, rfl, trivial⟩ rfl rfl rfl (FnO.mono (ih (szB kids) (by omega) vk kids _ H2 I2 uY (Nat.le_refl _) (by omega) (s4.mono hleY) (hR.mono (hle2.trans hleY)) hY2) ?_)
     rintro v uK l1 hleK ⟨rfl, H3, I3, rfl, hY3⟩ -
     refine ⟨⟨fun _ h => h, fun _ h => h, fun _ h => h, trivial⟩, ?_⟩
     refine ri_y_on (i := 15) rfl rfl rfl rfl (by kernel_rfl) (by kernel_rfl) (by kernel_rfl) (Zb (Ze (Zb (Zb (Ze (Zb (Zp))))))) (fun _ _ => rfl) (Zbr rfl rfl) rfl ?_
     refine ri_y (i := 16) rfl rfl (by kernel_rfl) (by kernel_rfl) (by kernel_rfl) (Zb (Ze (Zb (Zb (Ze (Zb (Zp))))))) (fun _ _ => rfl) (Zn rfl rfl rfl) rfl ?_
     refine ri_end (by kernel_rfl) (ρ' := [(0, _), (1, _), (2, _), (7, _), (8, _), (27, _)]) ⟨rfl, rfl, rfl, rfl, rfl, rfl, trivial⟩ ?_
     refine Zc (Zce rfl (rfl) (Zr (Zah (Zc (Za (Zg (Zav rfl rfl rfl (Zs (by omega))) rfl ?_))))))
     refine ym rfl rfl (Zf (ρ' := [(0, _), (1, _), (2, _), (7, _), (8, _)]) ⟨rfl, rfl, rfl, rfl, rfl, trivial⟩ ?_)
     refine Zab ?_
     refine ⟨m - 1, [(0, _), (1, _), (2, _), (7, _), (8, _)], [(1000, _), (1001, _), (1002, _)], by omega, ⟨rfl, rfl, rfl, rfl, rfl, trivial⟩, ⟨rfl, rfl, rfl, trivial⟩, i + 1, by omega, (hle2.trans (hleY.trans hleK)), H3, I3, rfl, (by first | rfl | simp), ?_⟩
     rw [hdt]; exact hY3
    exact riall_nil
   refine riall_cons rfl rfl ?_ ?_
   ·
    refine Does.toI (by simp) ?_
    refine do_y (Zag rfl Tryz.k59 rfl (by assumption) (by omega) (by assumption) (vs := [_, _, _, _, _, _, _, _, _, _, _]) rfl rfl rfl rfl) rfl ?_
    refine ri_do (i := 0) rfl rfl (by kernel_rfl) ?_
    refine Does.toI (by simp) ?_
    refine do_y (Zi rfl Tryz.k64 rfl rfl rfl (vs := [_]) rfl rfl rfl) rfl ?_
    refine ri_do (i := 5) rfl rfl (by kernel_rfl) ?_
    refine do_yield (ρ' := [(0, _), (1, _), (2, _), (5, _), (7, _), (8, _)]) [1002] [] rfl rfl rfl rfl rfl ⟨rfl, rfl, rfl, rfl, rfl, rfl, trivial⟩ rfl rfl rfl (YldO.mono (hR.mono hle2 _ _ _ hYi u' _ _ (VLe.refl _) hbc) ?_)
    rintro v uY l1 hleY ⟨rfl, H2, I2, rfl, hY2⟩ -
    refine ⟨⟨fun _ h => h, trivial⟩, ?_⟩
    have h1 := h1.mono hleY
    refine ri_y (i := 6) rfl rfl (by kernel_rfl) (by kernel_rfl) (by kernel_rfl) (Zb (Ze (Zb (Zb (Ze (Zb (Zp))))))) (fun _ _ => rfl) (Zbr rfl rfl) rfl ?_
    refine ri_y (i := 7) rfl rfl (by kernel_rfl) (by kernel_rfl) (by kernel_rfl) (Zb (Ze (Zb (Zb (Ze (Zb (Zp))))))) (fun _ _ => rfl) (Zap rfl rfl) rfl ?_
    refine ri_y_on (i := 9) rfl rfl rfl rfl (by kernel_rfl) (by kernel_rfl) (by kernel_rfl) (Zb (Ze (Zb (Zb (Ze (Zb (Zp))))))) (fun _ _ => rfl) (Zap rfl rfl) rfl ?_
    refine ri_y_on (i := 10) rfl rfl rfl rfl (by kernel_rfl) (by kernel_rfl) (by kernel_rfl) (Zb (Ze (Zb (Zb (Ze (Zb (Zp))))))) (fun _ _ => rfl) (Zap rfl rfl) rfl ?_
    refine ri_y_on (i := 11) rfl rfl rfl rfl (by kernel_rfl) (by kernel_rfl) (by kernel_rfl) (Zb (Ze (Zb (Zb (Ze (Zb (Zp))))))) (fun _ _ => rfl) (y_index_eX rfl Tryz.s23 rfl rfl (by assumption) (by first | rfl | omega) (by omega)) rfl ?_
    refine ri_y_on (i := 12) rfl rfl rfl rfl (by kernel_rfl) (by kernel_rfl) (by kernel_rfl) (Zb (Ze (Zb (Zb (Ze (Zb (Zp))))))) (fun _ _ => rfl) (Zau rfl Tryz.f59' rfl (by decide) rfl) rfl ?_
    refine ri_all (is := [8, 13]) (by kernel_rfl) rfl ?_
    refine Zct rfl rfl rfl (by simp) ?_ ?_
    ·
     refine Does.toI (by simp) ?_
     refine do_y (Zi rfl Tryz.k150 rfl rfl rfl (vs := [_]) rfl rfl rfl) rfl ?_
     refine ri_do_on (i := 13) rfl rfl rfl (by kernel_rfl) (by simp) ?_
     refine Does.toI (by simp) ?_
     refine do_y (Zag rfl Tryz.k23 rfl (by assumption) (by omega) (by assumption) (vs := [_]) rfl rfl rfl rfl) rfl ?_
     refine ri_do_on (i := 14) rfl rfl rfl (by kernel_rfl) (by simp) ?_
     refine Does.toI (by simp) ?_
     refine Zaj (caps := [.pointer (some ⟨b2, 0, none⟩), .pointer (some ⟨b3, 0, none⟩)]) (ρ' := [(0, _), (1, _), (2, _), (7, _), (8, _), (18, _)]) [1000, 1001, 1002] [] trivial rfl rfl rfl Tryz.c105 rfl rfl ⟨rfl, rfl, rfl, rfl, rfl, rfl, trivial⟩ rfl rfl rfl (FnO.mono (ih (szB kids) (by omega) vk kids _ H2 I2 uY (Nat.le_refl _) (by omega) (s4.mono hleY) (hR.mono (hle2.trans hleY)) hY2) ?_)
     rintro v uK l1 hleK ⟨rfl, H3, I3, rfl, hY3⟩ -
     refine ⟨⟨fun _ h => h, fun _ h => h, fun _ h => h, trivial⟩, ?_⟩
     refine ri_y_on (i := 15) rfl rfl rfl rfl (by kernel_rfl) (by kernel_rfl) (by kernel_rfl) (Zb (Ze (Zb (Zb (Ze (Zb (Zp))))))) (fun _ _ => rfl) (Zbr rfl rfl) rfl ?_
     refine ri_y (i := 16) rfl rfl (by kernel_rfl) (by kernel_rfl) (by kernel_rfl) (Zb (Ze (Zb (Zb (Ze (Zb (Zp))))))) (fun _ _ => rfl) (Zn rfl rfl rfl) rfl ?_
     refine ri_end (by kernel_rfl) (ρ' := [(0, _), (1, _), (2, _), (7, _), (8, _), (27, _)]) ⟨rfl, rfl, rfl, rfl, rfl, rfl, trivial⟩ ?_
     refine Zc (Zce rfl (rfl) (Zr (Zah (Zc (Za (Zg (Zav rfl rfl rfl (Zs (by omega))) rfl ?_))))))
     refine ym rfl rfl (Zf (ρ' := [(0, _), (1, _), (2, _), (7, _), (8, _)]) ⟨rfl, rfl, rfl, rfl, rfl, trivial⟩ ?_)
     refine Zab ?_
     refine ⟨m - 1, [(0, _), (1, _), (2, _), (7, _), (8, _)], [(1000, _), (1001, _), (1002, _)], by omega, ⟨rfl, rfl, rfl, rfl, rfl, trivial⟩, ⟨rfl, rfl, rfl, trivial⟩, i + 1, by omega, (hle2.trans (hleY.trans hleK)), H3, I3, rfl, (by first | rfl | simp), ?_⟩
     rw [hdt]; exact hY3
    refine Zct rfl rfl rfl (by simp) ?_ ?_
    ·
     refine Does.toI (by simp) ?_
     refine do_y (Zag rfl Tryz.k23 rfl (by assumption) (by omega) (by assumption) (vs := [_]) rfl rfl rfl rfl) rfl ?_
     refine ri_do_on (i := 8) rfl rfl rfl (by kernel_rfl) (by simp) ?_
     refine Does.toI (by simp) ?_
     refine do_y (Zi rfl Tryz.k150 rfl rfl rfl (vs := [_]) rfl rfl rfl) rfl ?_
     refine ri_do_on (i := 14) rfl rfl rfl (by kernel_rfl) (by simp) ?_
     refine Does.toI (by simp) ?_
     refine Zaj (caps := [.pointer (some ⟨b2, 0, none⟩), .pointer (some ⟨b3, 0, none⟩)]) (ρ' := [(0, _), (1, _), (2, _), (7, _), (8, _), (18, _)]) [1000, 1001, 1002] [] trivial rfl rfl rfl Tryz.c105 rfl rfl ⟨rfl, rfl, rfl, rfl, rfl, rfl, trivial⟩ rfl rfl rfl (FnO.mono (ih (szB kids) (by omega) vk kids _ H2 I2 uY (Nat.le_refl _) (by omega) (s4.mono hleY) (hR.mono (hle2.trans hleY)) hY2) ?_)
     rintro v uK l1 hleK ⟨rfl, H3, I3, rfl, hY3⟩ -
     refine ⟨⟨fun _ h => h, fun _ h => h, fun _ h => h, trivial⟩, ?_⟩
     refine ri_y_on (i := 15) rfl rfl rfl rfl (by kernel_rfl) (by kernel_rfl) (by kernel_rfl) (Zb (Ze (Zb (Zb (Ze (Zb (Zp))))))) (fun _ _ => rfl) (Zbr rfl rfl) rfl ?_
     refine ri_y (i := 16) rfl rfl (by kernel_rfl) (by kernel_rfl) (by kernel_rfl) (Zb (Ze (Zb (Zb (Ze (Zb (Zp))))))) (fun _ _ => rfl) (Zn rfl rfl rfl) rfl ?_
     refine ri_end (by kernel_rfl) (ρ' := [(0, _), (1, _), (2, _), (7, _), (8, _), (27, _)]) ⟨rfl, rfl, rfl, rfl, rfl, rfl, trivial⟩ ?_
     refine Zc (Zce rfl (rfl) (Zr (Zah (Zc (Za (Zg (Zav rfl rfl rfl (Zs (by omega))) rfl ?_))))))
     refine ym rfl rfl (Zf (ρ' := [(0, _), (1, _), (2, _), (7, _), (8, _)]) ⟨rfl, rfl, rfl, rfl, rfl, trivial⟩ ?_)
     refine Zab ?_
     refine ⟨m - 1, [(0, _), (1, _), (2, _), (7, _), (8, _)], [(1000, _), (1001, _), (1002, _)], by omega, ⟨rfl, rfl, rfl, rfl, rfl, trivial⟩, ⟨rfl, rfl, rfl, trivial⟩, i + 1, by omega, (hle2.trans (hleY.trans hleK)), H3, I3, rfl, (by first | rfl | simp), ?_⟩
     rw [hdt]; exact hY3
    exact riall_nil
   exact riall_nil
  ·
   refine Zax ?_
   refine Zq (Zq ?_)
   refine Zaf ?_
   refine Zc (Zd (Za (ya rfl rfl (Zf (ρ' := [(4, _)]) ⟨rfl, trivial⟩ ?_))))
   refine Zc (Zw ?_)
   refine finO1 [1000, 1001, 1002] (.tmp rfl) rfl rfl ?_
   have hge := of_decide_eq_false hb2
   rw [List.take_of_length_le (by omega)] at hYi
   exact ⟨rfl, _, _, rfl, hYi⟩
def EachIt (u : View) (r : Value) (bs : List Blk) : Prop := ∃ b v T fr, r = .func (.func 104) #[] #[.pointer (some ⟨b, 0, none⟩)] ∧ u b = some (.cells #[v] T fr) ∧ BlkS u v bs
theorem eachIt_fn (b1 L : Nat) (Y : FgP) (v : Value) (T : TypeId) (fr : Nat × Nat) (bs : List Blk) (H : Nat → Prop) (I : World → Prop) (u : View) (hbig : szB bs ≤ 100000) (hb1 : u b1 = some (.cells #[v] T fr)) (ha : BlkS u v bs) (hR : RoundsB L u Y) (hY : Y [] H I) :
  FnO Tryz.prog 104 [yldV L, .pointer (some ⟨b1, 0, none⟩)] u [(none, .fg H I)] fun r u' l' => ∃ H' I', l' = [(none, .fg H' I')] ∧ Y (listB bs) H' I' := by
 refine FnO.intro [] Tryz.func104 rfl rfl rfl ?_
 intro w0 D hw0
 refine Zd (Za (Zv rfl rfl ?_))
 refine Zbx trivial rfl (cs := [_]) rfl rfl rfl rfl ?_
 refine Zf (ρ' := [(1, _), (2, _)]) ⟨rfl, rfl, trivial⟩ ?_
 refine Zc (Zd (Za (Zv rfl rfl ?_)))
 refine Zas trivial Tryz.z150 rfl rfl rfl ?_
 refine Zf (ρ' := [(1, _), (2, _), (3, _)]) ⟨rfl, rfl, rfl, trivial⟩ ?_
 refine Zc (Zd (Za ?_))
 refine Zbz 2 rfl ⟨2, _, .inl rfl⟩ ?_
 intro b2
 refine Zbz 3 rfl ⟨3, _, .inl rfl⟩ ?_
 intro b3
 refine Zg (Zbt rfl rfl rfl) rfl (Zv rfl rfl ?_)
 refine Zm trivial rfl Tryz.k150 rfl rfl rfl (vs := [_]) rfl rfl (by first | rfl | assumption | simp [Value.oneCell', str]) (Nat.le_of_ble_eq_true rfl) rfl ?_
 refine Zf (ρ' := [(1, _), (3, _)]) ⟨rfl, rfl, trivial⟩ ?_
 refine Zc (Za (Zg (Zi rfl Tryz.k150 rfl rfl rfl (vs := [_]) rfl rfl rfl) rfl (Zg (Zbd rfl Tryz.k23 rfl (by assumption) (vs := [_]) (by first | rfl | exact hP | exact cut_at hP rfl (Nat.le_of_ble_eq_true rfl) rfl) rfl rfl) rfl ?_)))
 refine Zv rfl rfl ?_
 refine Zaj (caps := [.pointer (some ⟨b2, 0, none⟩), .pointer (some ⟨b3, 0, none⟩)]) (ρ' := []) [2, 3, 1000] [] trivial rfl rfl rfl Tryz.c105 rfl rfl trivial rfl rfl rfl (FnO.mono (eachRec_fn b2 b3 L Y (szB bs) v bs [] H I u (Nat.le_refl _) hbig ha hR hY) ?_)
 rintro v u1 l1 hle1 ⟨rfl, H3, I3, rfl, hY3⟩ -
 refine ⟨⟨fun _ h => h, fun _ h => h, fun _ h => h, trivial⟩, ?_⟩
 refine Zf (ρ' := []) trivial ?_
 refine finO0n [1000]  rfl rfl ?_
 exact ⟨_, _, rfl, by simpa using hY3⟩
theorem each_fn (v : Value) (bs : List Blk) (u : View) (ha : BlkS u v bs) : FnP Tryz.prog 81 [v] u fun r u' => EachIt u' r bs := by
 have ha2 := ha
 obtain ⟨cs, ⟨ad, cap, rfl, h1⟩, hc1⟩ := ha2
 refine FnP.intro [.tmp 2] Tryz.func81 rfl rfl rfl ?_
 intro w0 D hw0
 refine Zd (Za (Zv rfl rfl ?_))
 refine Zbx trivial rfl (cs := [_]) rfl rfl rfl rfl ?_
 refine ya rfl rfl (Zf (ρ' := [(1, _)]) ⟨rfl, trivial⟩ ?_)
 refine Zc (Zd (Za ?_))
 refine Zbz 1 rfl ⟨1, _, .inl rfl⟩ ?_
 intro b1
 refine Zg (Zbt rfl rfl rfl) rfl ?_
 refine Zcs 1 rfl ?_
 intro b T u1 hle1 hb1 hpin
 obtain rfl := hpin _ rfl
 refine ya rfl rfl (Zf (ρ' := [(2, _)]) ⟨rfl, trivial⟩ ?_)
 refine Zc (Zw (Zbe (.tmp rfl) ?_))
 exact ⟨_, _, T, (0, 0), rfl, hb1, ha.mono hle1⟩
def openM (l : List Blk) : List (Value × Value) := (noteNames l).foldl (fun m s => mset m (str s) (.bool true)) []
theorem openM_snoc (l : List Blk) (k lv : Int) (inf t d ti : Bs) (a : DAttr) (line : List Inl) (kids : List Blk) : openM (l ++ [.mk k lv inf t d ti a line kids]) = if k = 14 then mset (openM l) (str inf) (.bool true) else openM l := by
 unfold openM noteNames
 rw [List.filterMap_append, List.foldl_append]
 simp only [List.filterMap_cons, List.filterMap_nil, noteName]
 by_cases h : k = 14 <;> simp [h]
theorem openM_keys : ∀ (D : List Bs) (m : List (Value × Value)), SKeys m → SKeys (D.foldl (fun m s => mset m (str s) (.bool true)) m)
 | [], m, h => h
 | s :: D, m, h => openM_keys D _ h.mset
theorem openM_get : ∀ (D : List Bs) (m : List (Value × Value)) (s : Bs), SKeys m → (mget (D.foldl (fun m s => mset m (str s) (.bool true)) m) (str s)).getD (.bool false) = if s ∈ D then .bool true else (mget m (str s)).getD (.bool false)
 | [], m, s, h => by simp
 | x :: D, m, s, h => by
  rw [List.foldl_cons, openM_get D _ s h.mset, mget_mset _ _ _ _ h]
  by_cases h1 : s ∈ D
  ·
   simp [h1]
  ·
   by_cases h2 : s = x
   ·
    subst h2; simp
   ·
    simp [h1, h2]
def OpenIs (m : List (Value × Value)) (D out : List Bs) : Prop := SKeys m ∧ ∀ s, (mget m (str s)).getD (.bool false) = .bool (decide (s ∈ D ∧ s ∉ out))
theorem openIs_start (l : List Blk) : OpenIs (openM l) (noteNames l) [] := by
 refine ⟨openM_keys _ _ rfl, fun s => ?_⟩
 unfold openM
 rw [openM_get (noteNames l) [] s rfl]
 by_cases h : s ∈ noteNames l <;> simp [h, mget_nil]
theorem OpenIs.use {m : List (Value × Value)} {D out : List Bs} (h : OpenIs m D out) (t : Bs) : OpenIs (mset m (str t) (.bool false)) D (out ++ [t]) := by
 refine ⟨h.1.mset, fun s => ?_⟩
 rw [mget_mset _ _ _ _ h.1]
 by_cases e : s = t
 ·
  subst e; simp
 ·
  rw [if_neg e, h.2 s]; simp [e]
abbrev notesJ (b3 bm : Nat) (l : List Blk) : List PO := [(some b3, .box [.map (some bm)]), (some bm, .mp (openM l))]
def notesK (vm : Value) (bs : List Blk) (ρ : Env) (σ : Own) (u1 : View) : Prop :=
 ∃ b3 bm b1 ad cap v1 T1 fr1, ρ = [(1, .p 1 0), (3, .p 3 0), (11, .v (.func (.func 104) #[] #[.pointer (some ⟨b1, 0, none⟩)]))] ∧ σ = [(1, (none, .box [vm, .slice ad bs.length cap])), (3, (some b3, .box [.map (some bm)])), (8, (some bm, .mp []))] ∧ u1 b1 = some (.cells #[v1] T1 fr1) ∧ BlkS u1 v1 bs ∧ BlkS u1 (.slice ad bs.length cap) bs
def notesM (b3 bm : Nat) (pre : List Blk) (x : Blk) (ρ : Env) (σ : Own) (u : View) : Prop :=
 ∃ k lv inf t d ti a line kids vc vp vl vk, x = .mk k lv inf t d ti a line kids ∧ ρ = [(3, .p 1000 0), (4, .p 4 0)] ∧ σ = [(4, (none, .box (blkV k lv inf t d ti a.id vc vp vl vk))), (1000, (some b3, .box [.map (some bm)])), (1001, (some bm, .mp (openM pre)))]
set_option maxHeartbeats 4000000 in
theorem notes_fn (vm vb : Value) (bs : List Blk) (u : View) (hbig : szB bs ≤ 10000) (hsm : smB bs) (ha : BlkS u vb bs) :
  FnP Tryz.prog 52 [.agg #[vm, vb]] u fun r u' => StrS u' r (notesOf bs) := by
 have ha2 := ha
 obtain ⟨cs, ⟨ad, cap, rfl, h1⟩, hc1⟩ := ha2
 have hll := listB_len bs
 have hls := szL_listB bs
 have hli := inls_len (listB bs)
 refine FnP.intro_range (α := Blk) (pre := [_, _]) [.tmp 2] (fun u x v => ∃ cs, v = .agg cs.toArray ∧ BlkC u x cs) (notesK vm bs) Tryz.func52 rfl rfl rfl rfl ?_ ?_
 ·
  intro w0 D hw0
  refine Za (Zv rfl rfl ?_)
  refine Zbx trivial rfl (cs := [_, _]) rfl rfl rfl rfl ?_
  refine ya rfl rfl (Zf (ρ' := [(1, _)]) ⟨rfl, trivial⟩ ?_)
  refine ⟨rfl, ?_⟩
  refine Za (Zv rfl rfl ?_)
  refine Zcl trivial rfl rfl rfl ?_
  refine Zv rfl rfl ?_
  refine Zas trivial Tryz.z75 rfl rfl rfl ?_
  refine Zbz 8 rfl ⟨8, 0, .inr rfl⟩ ?_
  intro b8
  refine Zv rfl rfl ?_
  refine Zm trivial rfl Tryz.k75 rfl rfl rfl (vs := [_]) rfl rfl (by first | rfl | assumption | simp [Value.oneCell', str]) (Nat.le_of_ble_eq_true rfl) rfl ?_
  refine Zbz 3 rfl ⟨3, _, .inl rfl⟩ ?_
  intro b3
  refine Zf (ρ' := [(1, _), (3, _)]) ⟨rfl, rfl, trivial⟩ ?_
  refine ⟨rfl, ?_⟩
  refine Za (Zg (Zh rfl Tryz.f25' rfl (by decide) rfl) rfl (Zg (Zi rfl Tryz.k23 rfl rfl rfl (vs := [_]) rfl rfl rfl) rfl (Zv rfl rfl ?_)))
  refine Zbm (caps := []) trivial rfl rfl Tryz.c81 rfl (FnP.mono (each_fn _ bs u ha) ?_)
  rintro v uE hle0 ⟨b1, v1, T1, fr1, rfl, hb1, ha1⟩ hleE
  refine Zf (ρ' := [(1, _), (3, _), (11, _)]) ⟨rfl, rfl, rfl, trivial⟩ ?_
  exact ⟨rfl, [(1, _), (3, _), (11, _)], [(1, _), (3, _), (8, _)], ⟨rfl, rfl, rfl, trivial⟩, ⟨rfl, rfl, rfl, trivial⟩, b3, b8, b1, ad, cap, v1, T1, fr1, rfl, rfl, hb1, ha1, ha.mono hleE⟩
 ·
  rintro ρ σ u1 hle ⟨b3, bm, b1, ad, cap, v1, T1, fr1, rfl, rfl, hb1, ha1, ha⟩
  refine ⟨104, [.pointer (some ⟨b1, 0, none⟩)], [3, 8], notesJ b3 bm, listB bs, [(3, .pointer (some ⟨b3, 0, none⟩))], [(1, .p 1 0), (3, .p 3 0)], notesM b3 bm, rfl, Tryz.c104, rfl, rfl, ?_, ⟨rfl, rfl, trivial⟩, rfl, ⟨fun _ h => h, fun _ h => h, trivial⟩, rfl, ?_, ?_, ?_, ?_⟩
  ·
   intro k x hk
   simp only [gv] at hk
   split at hk
   ·
    rename_i hb
    cases hk
    have := Nat.eq_of_beq_eq_true hb
    subst this
    rfl
   ·
    cases hk
  ·
   intro L Y hY H I hYI
   exact FnO.mono (eachIt_fn b1 L Y v1 T1 fr1 bs H I u1 (by omega) hb1 ha1 (fun pre H I h u' x cs hv hc => hY pre H I h u' x _ hv ⟨cs, rfl, hc⟩) hYI) fun _ _ _ _ h => h
  ·
   rintro L pre x v u' w0 D hv ⟨cs, rfl, hc⟩ hlt
   obtain ⟨k, lv, inf, t, d, ti, a, line, kids⟩ := x
   have oneAll := hc.one
   obtain ⟨vc, vp, vl, vk, rfl, s1, s2, s3, s4, hok⟩ := hc.cells
   refine Zco 3 1000 _ 0 rfl rfl ?_
   refine Za (Zv rfl rfl ?_)
   refine Zas trivial Tryz.z59 rfl rfl rfl ?_
   refine Zv rfl rfl ?_
   refine Zm trivial rfl Tryz.k59 rfl rfl rfl (vs := [_, _, _, _, _, _, _, _, _, _, _]) rfl rfl (by first | rfl | assumption | simp [Value.oneCell', str]) (Nat.le_of_ble_eq_true rfl) rfl ?_
   refine Zf (ρ' := [(3, _), (4, _)]) ⟨rfl, rfl, trivial⟩ ?_
   exact ⟨rfl, [(3, _), (4, _)], [(4, _), (1000, _), (1001, _)], ⟨rfl, rfl, trivial⟩, ⟨rfl, rfl, rfl, trivial⟩, k, lv, inf, t, d, ti, a, line, kids, vc, vp, vl, vk, rfl, rfl, rfl⟩
  ·
   rintro L pre x ρ σ u'' w0 D ⟨k, lv, inf, t, d, ti, a, line, kids, vc, vp, vl, vk, rfl, rfl, rfl⟩
   have hkeys := openM_keys (noteNames pre) [] rfl
   have hsn := openM_snoc pre k lv inf t d ti a line kids
   unfold SKeys at hkeys
   refine Zad (Zd (Za (Zg (Zh rfl Tryz.f59' rfl (by decide) rfl) rfl (Zg (Zi rfl Tryz.k3 rfl rfl rfl (vs := [_]) rfl rfl rfl) rfl (Zg (Zaw rfl rfl rfl) rfl (Zf (ρ' := [(3, _), (4, _), (15, _)]) ⟨rfl, rfl, rfl, trivial⟩ ?_))))))
   refine Zc ?_
   refine Zo rfl (fun hb4 => ?_) (fun hb4 => ?_)
   ·
    rw [if_pos (of_decide_eq_true hb4)] at hsn
    refine Za (Zg (y_load_bm (id2 := 1001) rfl Tryz.k75 rfl rfl rfl rfl rfl) rfl (Zg (Zh rfl Tryz.f59' rfl (by decide) rfl) rfl (Zg (Zi rfl Tryz.k9 rfl rfl rfl (vs := [_]) rfl rfl rfl) rfl (Zv rfl rfl ?_))))
    refine Zcb trivial rfl Tryz.m75 Tryz.str9 rfl rfl rfl rfl rfl hkeys ?_
    refine Zf (ρ' := []) trivial ?_
    refine Zah ?_
    refine ⟨rfl, [1000, 1001], ?_, rfl⟩
    rw [show notesJ b3 bm (pre ++ [.mk k lv inf t d ti a line kids]) = [(some b3, .box [.map (some bm)]), (some bm, .mp (openM (pre ++ [.mk k lv inf t d ti a line kids])))] from rfl, hsn]
    rfl
   ·
    rw [if_neg (of_decide_eq_false hb4)] at hsn
    refine Zr (Zah ?_)
    refine ⟨rfl, [1000, 1001], ?_, rfl⟩
    rw [show notesJ b3 bm (pre ++ [.mk k lv inf t d ti a line kids]) = [(some b3, .box [.map (some bm)]), (some bm, .mp (openM (pre ++ [.mk k lv inf t d ti a line kids])))] from rfl, hsn]
    rfl
  ·
   intro w0 D df dH dI u2 hle2
   show WC _ _ [(1, .p 1 0), (3, .p 3 0)] [(3, (some b3, .box [.map (some bm)])), (8, (some bm, .mp (openM (listB bs)))), (900, (none, .fg dH dI)), (1, (none, .box [vm, .slice ad bs.length cap]))] _ _
   have hM0 := openIs_start (listB bs)
   refine Zd (Za (ya rfl rfl ?_))
   refine Zch 5 505 9 1 rfl rfl rfl ?_
   refine Zf (ρ' := [(1, _), (3, _), (5, _)]) ⟨rfl, rfl, rfl, trivial⟩ ?_
   refine Zc (Zd (Zd (Za (Zg (Zh rfl Tryz.f25' rfl (by decide) rfl) rfl (Zg (Zi rfl Tryz.k23 rfl rfl rfl (vs := [_]) rfl rfl rfl) rfl (Zv rfl rfl ?_))))))
   refine Zbm (caps := []) trivial rfl rfl Tryz.c82 rfl (FnP.mono (treeInlines_fn _ bs u2 (by omega) hsm (ha.mono hle2)) ?_)
   rintro v uI hle0 ⟨is, ⟨adi, capi, rfl, hi1⟩, hic⟩ hleI
   refine Zg (Zaq rfl rfl Tryz.s35 rfl) rfl (ym rfl rfl (Zf (ρ' := [(3, _), (5, _), (21, _), (22, _), (23, _)]) ⟨rfl, rfl, rfl, rfl, rfl, trivial⟩ ?_))
   refine Zc (Zad ?_)
   refine Zbc (fun m ρ σ u' => ∃ i : Nat, i + m = (inls (listB bs)).length ∧ VLe uI u' ∧ ∃ (mi : List (Value × Value)), σ = [(3, (some b3, .box [.map (some bm)])), (8, (some bm, .mp mi)), (505, (none, .row 9 1 (notesIn (noteNames (listB bs)) ((inls (listB bs)).take i)).length (strsC (notesIn (noteNames (listB bs)) ((inls (listB bs)).take i))))), (900, (none, .fg dH dI))] ∧ ρ = [(3, .p 3 0), (5, .s 505), (21, .v (.slice adi (inls (listB bs)).length capi)), (22, .v (.int .i64 (inls (listB bs)).length)), (23, .v (.int .i64 i))] ∧ (uI = u' ∧ OpenIs mi (noteNames (listB bs)) (notesIn (noteNames (listB bs)) ((inls (listB bs)).take i)))) ((inls (listB bs)).length) ?_ ?_
   ·
    refine ⟨[(3, _), (5, _), (21, _), (22, _), (23, _)], [(3, _), (8, _), (505, _), (900, _)], ⟨rfl, rfl, rfl, rfl, rfl, trivial⟩, ⟨rfl, rfl, rfl, rfl, trivial⟩, 0, by omega, VLe.refl _, openM (listB bs), rfl, rfl, ?_⟩
    exact ⟨rfl, hM0⟩
   ·
    rintro m ρ σ u' ⟨i, hi8, hle8, mi, rfl, rfl, ⟨rfl, hM⟩⟩
    refine Zd (Za (Zg (Zbn rfl rfl rfl) rfl (Zf (ρ' := [(3, _), (5, _), (21, _), (22, _), (23, _), (24, _)]) ⟨rfl, rfl, rfl, rfl, rfl, rfl, trivial⟩ ?_)))
    refine Zc (Zd ?_)
    refine Zo rfl (fun hb8 => ?_) (fun hb8 => ?_)
    ·
     refine Zr (Zc (Zd (Zad (Zd ?_))))
     have hlt : i < (inls (listB bs)).length := by have := of_decide_eq_true hb8; omega
     obtain ⟨k, t, d, ti, a, args, cites, kids, vc, vp, va, vt, vk, hg, hcut1, s1, s2, s3, s4, s5, hok⟩ := hic.at hlt
     have oneAll := (hic.get i _ hg).one
     rw [hcut1] at oneAll
     have hkeys := hM.1
     unfold SKeys at hkeys
     have hst := notesIn_take (noteNames (listB bs)) hg
     have hnl := notesIn_len (noteNames (listB bs)) ((inls (listB bs)).take i)
     have htl : ((inls (listB bs)).take i).length ≤ i := by simp; omega
     have hO : noteStep (noteNames (listB bs)) (notesIn (noteNames (listB bs)) ((inls (listB bs)).take i)) (.mk k t d ti a args cites kids) = if k = 12 ∧ t ∈ noteNames (listB bs) ∧ t ∉ notesIn (noteNames (listB bs)) ((inls (listB bs)).take i) then notesIn (noteNames (listB bs)) ((inls (listB bs)).take i) ++ [t] else notesIn (noteNames (listB bs)) ((inls (listB bs)).take i) := rfl
     rw [hO] at hst
     refine Za (Zg (Zai rfl Tryz.s35 rfl rfl (by assumption) (by first | rfl | omega) (by omega)) rfl (Zg (Zag rfl Tryz.k42 rfl (by assumption) (by omega) (by assumption) (vs := [_, _, _, _, _, _, _, _, _, _]) rfl rfl rfl rfl) rfl (Zv rfl rfl ?_)))
     refine Zas trivial Tryz.z42 rfl rfl rfl ?_
     refine Zv rfl rfl ?_
     refine Zm trivial rfl Tryz.k42 rfl rfl rfl (vs := [_, _, _, _, _, _, _, _, _, _]) rfl rfl (by first | rfl | assumption | simp [Value.oneCell', str]) (Nat.le_of_ble_eq_true rfl) rfl ?_
     refine Zf (ρ' := [(3, _), (5, _), (7, _), (21, _), (22, _), (23, _)]) ⟨rfl, rfl, rfl, rfl, rfl, rfl, trivial⟩ ?_
     refine Zc (Zd ?_)
     refine Zcj 35 (decide (k = 12 ∧ t ∈ noteNames (listB bs) ∧ t ∉ notesIn (noteNames (listB bs)) ((inls (listB bs)).take i))) (ρk := [(3, _), (5, _), (7, _), (21, _), (22, _), (23, _)]) ⟨rfl, rfl, rfl, rfl, rfl, rfl, trivial⟩ ?_ ?_
     ·
      refine Za (Zg (Zh rfl Tryz.f42' rfl (by decide) rfl) rfl (Zg (Zi rfl Tryz.k3 rfl rfl rfl (vs := [_]) rfl rfl rfl) rfl (Zg (Zaw rfl rfl rfl) rfl (ym rfl rfl ?_))))
      rcases Bool.eq_false_or_eq_true (decide (k = 12)) with hg10_3 | hg10_3
      ·
       simp only [hg10_3]
       refine Zk rfl rfl (Zg (y_load_bm (id2 := 8) rfl Tryz.k75 rfl rfl rfl rfl rfl) rfl (Zk rfl rfl (Zg (Zh rfl Tryz.f42' rfl (by decide) rfl) rfl (Zk rfl rfl (Zg (Zi rfl Tryz.k9 rfl rfl rfl (vs := [_]) rfl rfl rfl) rfl (Zk rfl rfl (Zg (y_lookup rfl Tryz.m75 Tryz.str9 Tryz.v4 rfl rfl rfl rfl rfl (by assumption)) rfl ?_)))))))
       rw [hM.2 t]
       refine Zg (Zl rfl rfl rfl) rfl ?_
       exact Zam rfl ⟨rfl, rfl, rfl, rfl, rfl, rfl, trivial⟩ (by simp_all)
      ·
       simp only [hg10_3]
       iterate 4 refine Zt rfl rfl rfl rfl ?_
       refine Zg (Zn rfl rfl rfl) rfl ?_
       exact Zam rfl ⟨rfl, rfl, rfl, rfl, rfl, rfl, trivial⟩ (by simp_all)
     refine Zc ?_
     refine Zo rfl (fun hb10 => ?_) (fun hb10 => ?_)
     ·
      have h5 := of_decide_eq_true hb10; rw [if_pos h5] at hst
      refine Zd (Za (Zg (y_load_bm (id2 := 8) rfl Tryz.k75 rfl rfl rfl rfl rfl) rfl (Zg (Zh rfl Tryz.f42' rfl (by decide) rfl) rfl (Zg (Zi rfl Tryz.k9 rfl rfl rfl (vs := [_]) rfl rfl rfl) rfl (Zv rfl rfl ?_)))))
      refine Zcb trivial rfl Tryz.m75 Tryz.str9 rfl rfl rfl rfl rfl (by assumption) ?_
      refine Zf (ρ' := [(3, _), (5, _), (7, _), (21, _), (22, _), (23, _)]) ⟨rfl, rfl, rfl, rfl, rfl, rfl, trivial⟩ ?_
      refine Zc (Za (ym rfl rfl (Zg (Zh rfl Tryz.f42' rfl (by decide) rfl) rfl (Zg (Zi rfl Tryz.k9 rfl rfl rfl (vs := [_]) rfl rfl rfl) rfl (Zv rfl rfl ?_)))))
      refine Zak trivial Tryz.s37 Tryz.z9 (ps := [(_, _)]) rfl (xs := [_]) rfl rfl rfl rfl rfl rfl rfl ?_
      refine Zv rfl rfl ?_
      refine Zby trivial rfl rfl Tryz.s37 Tryz.z9 rfl rfl rfl rfl rfl rfl (by first | rfl | assumption | simp [Value.oneCell', str]) (by omega) (by omega) (ρ' := [(3, _), (21, _), (22, _), (23, _)]) ⟨rfl, rfl, rfl, rfl, trivial⟩ rfl rfl rfl ?_
      refine ya rfl rfl ?_
      refine rl_ren 43 505 rfl rfl rfl ?_
      refine Zf (ρ' := [(3, _), (5, _), (21, _), (22, _), (23, _)]) ⟨rfl, rfl, rfl, rfl, rfl, trivial⟩ ?_
      refine Zah (Zc (Za (Zg (Zav rfl rfl rfl (Zs (by omega))) rfl ?_)))
      refine ym rfl rfl (Zf (ρ' := [(3, _), (5, _), (21, _), (22, _), (23, _)]) ⟨rfl, rfl, rfl, rfl, rfl, trivial⟩ ?_)
      refine Zab ?_
      refine ⟨m - 1, [(3, _), (5, _), (21, _), (22, _), (23, _)], [(3, _), (8, _), (505, _), (900, _)], by omega, ⟨rfl, rfl, rfl, rfl, rfl, trivial⟩, ⟨rfl, rfl, rfl, rfl, trivial⟩, i + 1, by omega, hle8, _, (by simp only [hst, List.length_append, List.length_cons, List.length_nil, strsC, List.map_append, List.map_cons, List.map_nil]; rfl), (by first | rfl | simp), ?_⟩
      exact ⟨rfl, by rw [hst]; first | exact hM.use t | exact hM⟩
     ·
      have h5 := of_decide_eq_false hb10; rw [if_neg h5] at hst
      refine Zr (Zah (Zc (Za (Zg (Zav rfl rfl rfl (Zs (by omega))) rfl ?_))))
      refine ym rfl rfl (Zf (ρ' := [(3, _), (5, _), (21, _), (22, _), (23, _)]) ⟨rfl, rfl, rfl, rfl, rfl, trivial⟩ ?_)
      refine Zab ?_
      refine ⟨m - 1, [(3, _), (5, _), (21, _), (22, _), (23, _)], [(3, _), (8, _), (505, _), (900, _)], by omega, ⟨rfl, rfl, rfl, rfl, rfl, trivial⟩, ⟨rfl, rfl, rfl, rfl, trivial⟩, i + 1, by omega, hle8, _, (by simp only [hst, List.length_append, List.length_cons, List.length_nil, strsC, List.map_append, List.map_cons, List.map_nil]; rfl), (by first | rfl | simp), ?_⟩
      exact ⟨rfl, by rw [hst]; first | exact hM.use t | exact hM⟩
    ·
     refine Zax ?_
     refine Zq (Zq ?_)
     refine Zaf ?_
     refine Zc (Zd (Za (ym rfl rfl ?_)))
     refine Zbo 505 rfl ?_
     intro ad505 cap505 u505 hle505z hsl505
     refine ya rfl rfl (Zf (ρ' := [(2, _)]) ⟨rfl, trivial⟩ ?_)
     refine Zc (Zw ?_)
     refine ⟨?_, rfl⟩
     refine Zbe (.tmp rfl) ?_
     have hge := of_decide_eq_false hb8
     rw [List.take_of_length_le (by omega)] at hsl505 ⊢
     exact strS_of rfl hsl505
def CtrM (kvs : List (Value × Value)) (c : Bs → Nat) : Prop := SKeys kvs ∧ ∀ s, (mget kvs (str s)).getD (.int .i64 0) = .int .i64 (c s : Nat)
def upC (c : Bs → Nat) (k : Bs) : Bs → Nat := fun s => if s = k then c k + 1 else c s
theorem CtrM.up {kvs : List (Value × Value)} {c : Bs → Nat} (h : CtrM kvs c) (k : Bs) : CtrM (mset kvs (str k) (.int .i64 ((c k : Int) + 1))) (upC c k) := by
 refine ⟨h.1.mset, fun s => ?_⟩
 rw [mget_mset _ _ _ _ h.1]
 unfold upC
 by_cases e : s = k
 ·
  rw [if_pos e, if_pos e]; rfl
 ·
  rw [if_neg e, if_neg e]; exact h.2 s
abbrev cntV (b5 : Nat) : Value := .func (.func 45) #[] #[.pointer (some ⟨b5, 0, none⟩)]
theorem count_fn (b5 bm : Nat) (kvs : List (Value × Value)) (c : Bs → Nat) (k : Bs) (hc : c k ≤ 1000000) (u : View) (hT : TabU u) (hM : CtrM kvs c) :
  FnO Tryz.prog 45 [str k, .pointer (some ⟨b5, 0, none⟩)] u [(some b5, .box [.map (some bm)]), (some bm, .mp kvs)]
   fun r u' l' => r = str (dec (c k + 1)) ∧ ∃ kvs', l' = [(some b5, .box [.map (some bm)]), (some bm, .mp kvs')] ∧ CtrM kvs' (upC c k) := by
 have hk1 := hM.1
 have hk2 := (hM.up k).1
 unfold SKeys at hk1 hk2
 refine FnO.intro [.tmp 3] Tryz.func45 rfl rfl rfl ?_
 intro w0 D hw0
 refine Zco 1 1000 _ 0 rfl rfl ?_
 refine Zd (Za (ya rfl rfl (Zf (ρ' := [(0, _), (1, _)]) ⟨rfl, rfl, trivial⟩ ?_)))
 refine Zc (Zd (Za (Zg (y_load_bm (id2 := 1001) rfl Tryz.k86 rfl rfl rfl rfl rfl) rfl (ym rfl rfl (Zg (y_lookup rfl Tryz.m86 Tryz.str9 Tryz.v3 rfl rfl rfl rfl rfl (by assumption)) rfl ?_)))))
 rw [hM.2 k]
 refine Zg (Zav rfl rfl rfl (Zs (by omega))) rfl ?_
 refine Zv rfl rfl ?_
 refine Zcb trivial rfl Tryz.m86 Tryz.str9 rfl rfl rfl rfl rfl (by assumption) ?_
 refine Zf (ρ' := [(0, _), (1, _)]) ⟨rfl, rfl, trivial⟩ ?_
 refine Zc (Zd (Za (Zg (y_load_bm (id2 := 1001) rfl Tryz.k86 rfl rfl rfl rfl rfl) rfl (ym rfl rfl (Zg (y_lookup rfl Tryz.m86 Tryz.str9 Tryz.v3 rfl rfl rfl rfl rfl (by assumption)) rfl ?_)))))
 rw [(hM.up k).2 k, show upC c k k = c k + 1 from if_pos rfl]
 refine Zv rfl rfl ?_
 refine Zaa (caps := []) trivial rfl rfl Tryz.c46 rfl (FnP.mono (itoa_fn (c k + 1) (by omega) u hT) ?_)
 rintro v u1 hle1 rfl
 refine ya rfl rfl (Zf (ρ' := [(3, _)]) ⟨rfl, trivial⟩ ?_)
 refine Zc (Zw ?_)
 refine finO1 [1000, 1001] (.tmp rfl) rfl rfl ?_
 exact ⟨rfl, _, rfl, hM.up k⟩
def cOf (g : Nat → Nat) (m : Nat) (s : Bs) : Nat := if s = figS then g 1 else if s = tabS then g 2 else if s = equS then g 3 else if s = notS then m else 0
theorem cOf_kind {g : Nat → Nat} {m n : Nat} (h1 : 1 ≤ n) (h3 : n ≤ 3) : cOf g m (kindS n) = g n := by
 rcases (show n = 1 ∨ n = 2 ∨ n = 3 by omega) with rfl | rfl | rfl
 ·
  rfl
 ·
  rfl
 ·
  rfl
theorem cOf_up {g : Nat → Nat} {m n : Nat} (h1 : 1 ≤ n) (h3 : n ≤ 3) : upC (cOf g m) (kindS n) = cOf (setF g n (g n + 1)) m := by
 funext s
 unfold upC
 rw [cOf_kind h1 h3]
 rcases (show n = 1 ∨ n = 2 ∨ n = 3 by omega) with rfl | rfl | rfl
 ·
  show (if s = figS then _ else _) = _
  unfold cOf setF
  by_cases e : s = figS
  ·
   simp [e]
  ·
   simp [e]
 ·
  show (if s = tabS then _ else _) = _
  unfold cOf setF
  by_cases e : s = tabS
  ·
   subst e; rfl
  ·
   by_cases e2 : s = figS
   ·
    subst e2; rfl
   ·
    simp [e, e2]
 ·
  show (if s = equS then _ else _) = _
  unfold cOf setF
  by_cases e : s = equS
  ·
   subst e; rfl
  ·
   by_cases e2 : s = figS
   ·
    subst e2; rfl
   ·
    by_cases e3 : s = tabS
    ·
     subst e3; rfl
    ·
     simp [e, e2, e3]
theorem cOf_note (g : Nat → Nat) (m : Nat) : cOf g m notS = m := rfl
theorem cOf_upNote (g : Nat → Nat) (m : Nat) : upC (cOf g m) notS = cOf g (m + 1) := by
 funext s
 unfold upC
 rw [cOf_note]
 by_cases e : s = notS
 ·
  subst e; rfl
 ·
  rw [if_neg e]
  unfold cOf
  simp [e]
section
variable {k lv : Int} {free : Bool} {inf : Bs} {a : DAttr} {line : List Inl} {kids : List Blk} {X : Cs}
theorem kn_ne (n : Nat) : knS n ≠ secS := by
 unfold knS kindS
 split
 ·
  decide
 ·
  split
  ·
   decide
  ·
   split <;> decide
theorem caseSec (h : kindOfS k free inf a.id = secS) : kindStep k inf a kids (headStep free k lv a line X) = ⟨ctrF X.f (clampL lv), X.g, X.out ++ [⟨a.id, secS, valF (ctrF X.f (clampL lv)) (clampL lv), line⟩]⟩ := by
 unfold kindOfS at h
 by_cases hk : k = 2 ∧ free = true
 ·
  have h0 : kindN k inf a.id = 0 := by
   unfold kindN
   rw [if_neg (by omega), if_neg (by omega), if_neg (by omega)]
  rw [kindStep, h0, if_neg (by omega), headStep, if_pos hk]
 ·
  rw [if_neg hk] at h
  exact absurd h (kn_ne _)
theorem kindN_pos (h : 0 < kindN k inf a.id) : (k = 13 ∧ inf = figS ∧ kindN k inf a.id = 1) ∨ (k = 13 ∧ inf = tabS ∧ kindN k inf a.id = 2) ∨ (k = 4 ∧ kindN k inf a.id = 3) := by
 unfold kindN at h ⊢
 by_cases h1 : k = 13 ∧ inf = figS
 ·
  rw [if_pos h1]; exact .inl ⟨h1.1, h1.2, rfl⟩
 ·
  rw [if_neg h1] at h ⊢
  by_cases h2 : k = 13 ∧ inf = tabS
  ·
   rw [if_pos h2]; exact .inr (.inl ⟨h2.1, h2.2, rfl⟩)
  ·
   rw [if_neg h2] at h ⊢
   by_cases h3 : k = 4 ∧ a.id ≠ []
   ·
    rw [if_pos h3]; exact .inr (.inr ⟨h3.1, rfl⟩)
   ·
    rw [if_neg h3] at h; omega
theorem caseK (h0 : kindOfS k free inf a.id ≠ secS) (h : kindOfS k free inf a.id ≠ []) : 0 < kindN k inf a.id ∧ kindOfS k free inf a.id = kindS (kindN k inf a.id) ∧ kindStep k inf a kids (headStep free k lv a line X) = ⟨X.f, setF X.g (kindN k inf a.id) (X.g (kindN k inf a.id) + 1), X.out ++ [⟨a.id, kindOfS k free inf a.id, dec (X.g (kindN k inf a.id) + 1), capIf k kids⟩]⟩ := by
 unfold kindOfS at h0 h ⊢
 by_cases hk : k = 2 ∧ free = true
 ·
  rw [if_pos hk] at h0; exact absurd rfl h0
 ·
  rw [if_neg hk] at h0 h ⊢
  have hp : kindN k inf a.id ≠ 0 := by
   intro e
   rw [e] at h
   exact h rfl
  have hks : knS (kindN k inf a.id) = kindS (kindN k inf a.id) := by unfold knS; rw [if_neg hp]
  rw [hks, kindStep, if_pos (by omega), headStep, if_neg hk]
  exact ⟨by omega, rfl, rfl⟩
theorem caseFT (h : kindOfS k free inf a.id = figS ∨ kindOfS k free inf a.id = tabS) : ∃ n, 1 ≤ n ∧ n ≤ 3 ∧ kindOfS k free inf a.id = kindS n ∧ kindStep k inf a kids (headStep free k lv a line X) = ⟨X.f, setF X.g n (X.g n + 1), X.out ++ [⟨a.id, kindOfS k free inf a.id, dec (X.g n + 1), capOf kids⟩]⟩ := by
 obtain ⟨h1, h2, h3⟩ := caseK (k := k) (lv := lv) (free := free) (inf := inf) (a := a) (line := line) (kids := kids) (X := X) (by rcases h with h | h <;> rw [h] <;> decide) (by rcases h with h | h <;> rw [h] <;> decide)
 have h4 := kindN_le k inf a.id
 refine ⟨kindN k inf a.id, h1, h4, h2, ?_⟩
 rw [h3]
 have hk : k = 13 := by
  rcases kindN_pos h1 with ⟨e, _⟩ | ⟨e, _⟩ | ⟨e, e2⟩
  ·
   exact e
  ·
   exact e
  ·
   rw [h2, e2] at h
   rcases h with h | h <;> exact absurd h (by decide)
 rw [capIf, if_pos hk]
theorem caseEq (h : kindOfS k free inf a.id = equS) : kindStep k inf a kids (headStep free k lv a line X) = ⟨X.f, setF X.g 3 (X.g 3 + 1), X.out ++ [⟨a.id, kindOfS k free inf a.id, dec (X.g 3 + 1), []⟩]⟩ := by
 obtain ⟨h1, h2, h3⟩ := caseK (k := k) (lv := lv) (free := free) (inf := inf) (a := a) (line := line) (kids := kids) (X := X) (by rw [h]; decide) (by rw [h]; decide)
 rw [h3]
 rcases kindN_pos h1 with ⟨e, _, e2⟩ | ⟨e, _, e2⟩ | ⟨e, e2⟩
 ·
  rw [h2, e2] at h; exact absurd h (by decide)
 ·
  rw [h2, e2] at h; exact absurd h (by decide)
 ·
  rw [e2, capIf, if_neg (by omega)]
theorem caseNo (h0 : kindOfS k free inf a.id ≠ secS) (h1 : kindOfS k free inf a.id ≠ figS) (h2 : kindOfS k free inf a.id ≠ tabS) (h3 : kindOfS k free inf a.id ≠ equS) : kindOfS k free inf a.id = [] ∧ kindStep k inf a kids (headStep free k lv a line X) = X := by
 unfold kindOfS at h0 h1 h2 h3 ⊢
 by_cases hk : k = 2 ∧ free = true
 ·
  rw [if_pos hk] at h0; exact absurd rfl h0
 ·
  rw [if_neg hk] at h1 h2 h3 ⊢
  have hz : kindN k inf a.id = 0 := by
   cases Nat.eq_zero_or_pos (kindN k inf a.id) with
   | inl e => exact e
   | inr e =>
    rcases kindN_pos e with ⟨_, _, e⟩ | ⟨_, _, e⟩ | ⟨_, e⟩
    ·
     rw [e] at h1; exact absurd rfl h1
    ·
     rw [e] at h2; exact absurd rfl h2
    ·
     rw [e] at h3; exact absurd rfl h3
  rw [hz, kindStep, hz, if_neg (by omega), headStep, if_neg hk]
  exact ⟨rfl, rfl⟩
end
end Go.Proofs.Ythkgcakpjknlbaa
