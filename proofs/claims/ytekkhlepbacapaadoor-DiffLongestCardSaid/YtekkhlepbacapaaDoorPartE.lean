/- Texts for a law, part 5: they walk the functions that the law reaches, and state what holds of them; without conditions beyond each theorem's own. -/
import Derived.Test.YtekkhlepbacapaaDoorPartD
import Derived.Lib.IndexLaws
namespace Go.Proofs.Ytekkhlepbacapaa
open Go Go.Eng
set_option linter.unusedSimpArgs false
set_option linter.unusedVariables false
set_option maxRecDepth 4000
def sp (c : UInt8) : Bool := decide (c = 32)
def lead (b : Bool) : Bs → Nat
 | [] => 0
 | c :: s => if sp c = b then lead b s + 1 else 0
theorem lead_le (b : Bool) : ∀ s : Bs, lead b s ≤ s.length
 | [] => Nat.le_refl _
 | c :: s => by
  have := lead_le b s
  simp only [lead]
  split <;> simp <;> omega
def runs : Bs → List Bs
 | [] => []
 | c :: s => (c :: s.take (lead (sp c) s)) :: runs (s.drop (lead (sp c) s))
termination_by s => s.length
decreasing_by simp; omega
theorem runs_len (n : Nat) : ∀ s : Bs, s.length ≤ n → (runs s).length ≤ s.length := by
 induction n with
 | zero => intro s h; rw [List.eq_nil_of_length_eq_zero (by omega : s.length = 0), runs]; exact Nat.le_refl _
 | succ n ih =>
  intro s h
  cases s with
  | nil => rw [runs]; exact Nat.le_refl _
  | cons c s =>
   have h1 := ih (s.drop (lead (sp c) s)) (by simp at h ⊢; omega)
   rw [runs, List.length_cons, List.length_cons]
   simp at h1
   omega
def wordI : Inl → List Bs
 | .mk k t d ti a args cites kids => if k = 1 then runs t else [10 :: eI (.mk k t d ti a args cites kids)]
def wordsL (l : List Inl) : List Bs := l.flatMap wordI
def tI (s : Bs) : Inl := .mk 1 s [] [] ⟨[], [], []⟩ [] [] []
def partI : Inl → List Inl
 | .mk k t d ti a args cites kids => if k = 1 then (runs t).map tI else [.mk k t d ti a args cites kids]
def partsL (l : List Inl) : List Inl := l.flatMap partI
def wordOk (x : Inl) (w : Bs) : Prop := match x with
 | .mk k t _ _ _ _ _ _ => if k = 1 then w = t else w.head? = some 10
theorem words_parts (l : List Inl) : (wordsL l).length = (partsL l).length ∧ ∀ (i : Nat) (x : Inl) (w : Bs), (partsL l)[i]? = some x → (wordsL l)[i]? = some w → wordOk x w := by
 have one : ∀ y : Inl, (wordI y).length = (partI y).length ∧ ∀ (i : Nat) (x : Inl) (w : Bs), (partI y)[i]? = some x → (wordI y)[i]? = some w → wordOk x w := by
  rintro ⟨k, t, d, ti, a, args, cites, kids⟩
  simp only [wordI, partI]
  by_cases h : k = 1
  ·
   rw [if_pos h, if_pos h]
   refine ⟨by simp, fun i x w hx hw => ?_⟩
   rw [List.getElem?_map, hw] at hx
   cases hx
   simp [wordOk, tI]
  ·
   rw [if_neg h, if_neg h]
   refine ⟨by simp, fun i x w hx hw => ?_⟩
   cases i with
   | zero => simp at hx hw; subst hx; subst hw; simp [wordOk, h]
   | succ i => simp at hx
 induction l with
 | nil => exact ⟨rfl, fun i x w hx => by simp [partsL] at hx⟩
 | cons y l ih =>
  obtain ⟨h1, h2⟩ := one y
  obtain ⟨h3, h4⟩ := ih
  have e1 : wordsL (y :: l) = wordI y ++ wordsL l := rfl
  have e2 : partsL (y :: l) = partI y ++ partsL l := rfl
  rw [e1, e2]
  refine ⟨by simp [h1, h3], fun i x w hx hw => ?_⟩
  by_cases hi : i < (partI y).length
  ·
   rw [List.getElem?_append_left hi] at hx
   rw [List.getElem?_append_left (by omega)] at hw
   exact h2 i x w hx hw
  ·
   rw [List.getElem?_append_right (by omega)] at hx
   rw [List.getElem?_append_right (by omega), h1] at hw
   exact h4 _ x w hx hw
mutual
def plain1 : Inl → Bs
 | .mk k t d _ _ _ _ kids =>
  if k = 1 ∨ k = 4 ∨ k = 5 then t
  else if k = 2 ∨ k = 3 then [32]
  else if 6 ≤ k ∧ k ≤ 11 then plain kids
  else if k = 16 then d
  else []
def plain : List Inl → Bs
 | [] => []
 | x :: xs => plain1 x ++ plain xs
end
/- texts of at most B bytes -/
set_option linter.unusedSimpArgs false
set_option linter.unusedVariables false
set_option maxRecDepth 4000
mutual
def deep1 : Inl → List Inl
 | .mk k t d ti a args cites kids => .mk k t d ti a args cites kids :: deep kids
def deep : List Inl → List Inl
 | [] => []
 | x :: xs => deep1 x ++ deep xs
end
def lineOf : Blk → List Inl
 | .mk _ _ _ _ _ _ _ line _ => line
def inls (L : List Blk) : List Inl := L.flatMap fun b => deep (lineOf b)
set_option linter.unusedSimpArgs false
set_option linter.unusedVariables false
set_option maxRecDepth 4000
abbrev selfQ (b : Nat) : Option Addr := some ⟨b, 0, none⟩
def QOk (b : Nat) (q : Option Addr) : Prop := q = none ∨ q = selfQ b
abbrev wrL (b : Nat) (q : Option Addr) (ad : Option Addr) (cap : Nat) (l : Bs) : List PO := [(some b, .bt 85 [.pointer q, .slice ad l.length cap]), (none, .rwv (.slice ad l.length cap) 5 1 l.length (bytesC l))]
theorem wCheck0_fn (b : Nat) (v : Value) (hv : Value.oneCell' v = true) (u : View) :
  FnO Tryd.prog 75 [.pointer (some ⟨b, 0, none⟩)] u [(some b, .bt 85 [.pointer none, v])] fun r u' l' => r = .tuple #[] ∧ u = u' ∧ l' = [(some b, .bt 85 [.pointer (selfQ b), v])] := by
 refine FnO.intro [] Tryd.func75 rfl rfl rfl ?_
 intro w0 D hw0
 refine wc_pin 0 1000 _ 0 rfl rfl ?_
 refine Ze (Zb (ym rfl rfl (Zg (Zbg rfl rfl) rfl (Zg (Zi rfl Tryd.f83' rfl (by decide) rfl) rfl (Zg (y_load_t rfl Tryd.k80 rfl rfl rfl (vs := [_]) rfl rfl rfl) rfl (Zg (y_ptr_eql_nil (e := 83) rfl (by kernel_rfl) rfl rfl) rfl (Zf (ρ' := [(0, _), (6, _)]) ⟨rfl, rfl, trivial⟩ ?_)))))))
 refine Zd (Zax rfl (rfl) (Zb (ym rfl rfl (ym rfl rfl (Zg (y_to_unsafe (t := 83) rfl (by kernel_rfl) (by kernel_rfl) Tryd.k83 rfl rfl rfl rfl rfl) rfl (Zg (y_noEscape rfl ⟨_, Tryd.func80, by kernel_rfl, by kernel_rfl, by kernel_rfl, by kernel_rfl⟩ rfl) rfl (Zg (y_from_unsafe (t := 83) rfl (by kernel_rfl) (by kernel_rfl) Tryd.k83 rfl rfl rfl (by kernel_rfl)) rfl ?_)))))))
 refine Zg (Zbg rfl rfl) rfl (Zg (Zi rfl Tryd.f83' rfl (by decide) rfl) rfl (Zt rfl rfl ?_))
 refine do_store_t trivial rfl Tryd.k80 rfl rfl rfl (vs := [_]) rfl rfl rfl (Nat.le_of_ble_eq_true rfl) rfl ?_
 refine Zf (ρ' := []) trivial ?_
 refine finO0n [1000]  rfl rfl ?_
 exact ⟨rfl, rfl, rfl⟩
theorem wCheck1_fn (b : Nat) (v : Value) (u : View) :
  FnO Tryd.prog 75 [.pointer (some ⟨b, 0, none⟩)] u [(some b, .bt 85 [.pointer (selfQ b), v])] fun r u' l' => r = .tuple #[] ∧ u = u' ∧ l' = [(some b, .bt 85 [.pointer (selfQ b), v])] := by
 refine FnO.intro [] Tryd.func75 rfl rfl rfl ?_
 intro w0 D hw0
 refine wc_pin 0 1000 _ 0 rfl rfl ?_
 refine Ze (Zb (ym rfl rfl (Zg (Zbg rfl rfl) rfl (Zg (Zi rfl Tryd.f83' rfl (by decide) rfl) rfl (Zg (y_load_t rfl Tryd.k80 rfl rfl rfl (vs := [_]) rfl rfl rfl) rfl (Zg (y_ptr_eql_nil (e := 83) rfl (by kernel_rfl) rfl rfl) rfl (Zf (ρ' := [(0, _), (6, _)]) ⟨rfl, rfl, trivial⟩ ?_)))))))
 refine Zd (Zbo rfl (rfl) (Ze (Zb (ym rfl rfl (Zg (Zbg rfl rfl) rfl (Zg (Zi rfl Tryd.f83' rfl (by decide) rfl) rfl (Zg (y_load_t rfl Tryd.k80 rfl rfl rfl (vs := [_]) rfl rfl rfl) rfl ?_)))))))
 refine ym rfl rfl (Zg (y_ptr_neq_self (e := 83) rfl (by kernel_rfl) Tryd.k83 rfl rfl) rfl (Zf (ρ' := [(19, _)]) ⟨rfl, trivial⟩ ?_))
 refine Zd (Zbo rfl (rfl) (Zv ?_))
 refine finO0n [1000]  rfl rfl ?_
 exact ⟨rfl, rfl, rfl⟩
theorem wCheck_fn (b : Nat) (q : Option Addr) (hq : QOk b q) (v : Value) (hv : Value.oneCell' v = true) (u : View) :
  FnO Tryd.prog 75 [.pointer (some ⟨b, 0, none⟩)] u [(some b, .bt 85 [.pointer q, v])] fun r u' l' => r = .tuple #[] ∧ u = u' ∧ l' = [(some b, .bt 85 [.pointer (selfQ b), v])] := by
 rcases hq with rfl | rfl
 ·
  exact wCheck0_fn b v hv u
 ·
  exact wCheck1_fn b v u
theorem wWrite_fn (b : Nat) (q : Option Addr) (hq : QOk b q) (ad : Option Addr) (cap : Nat) (l s : Bs) (hl : l.length + s.length ≤ 10000000000) (u : View) :
  FnO Tryd.prog 70 [.pointer (some ⟨b, 0, none⟩), str s] u (wrL b q ad cap l) fun r u' l' => u = u' ∧ ∃ ad' cap', l' = wrL b (selfQ b) ad' cap' (l ++ s) := by
 refine FnO.intro [.tmp 4, .tmp 5] Tryd.func70 rfl rfl rfl ?_
 intro w0 D hw0
 refine wc_pin 0 1000 _ 0 rfl rfl ?_
 refine Ze (Zb (ya rfl rfl (ya rfl rfl (Zf (ρ' := [(0, _), (1, _)]) ⟨rfl, rfl, trivial⟩ ?_))))
 refine Zd (Ze (Zb (ym rfl rfl (Zt rfl rfl ?_))))
 refine Zal (caps := []) (ρ' := [(0, _), (1, _)]) [1000] [] trivial rfl rfl rfl Tryd.c75 rfl rfl ⟨rfl, rfl, trivial⟩ rfl rfl rfl (FnO.mono (wCheck_fn b q hq (.slice ad l.length cap) rfl u) ?_)
 rintro v u1 l1 hle1 ⟨rfl, rfl, rfl⟩ -
 refine ⟨⟨fun _ h => h, trivial⟩, ?_⟩
 refine Zf (ρ' := [(0, _), (1, _)]) ⟨rfl, rfl, trivial⟩ ?_
 refine Zd (Ze (Zb (ym rfl rfl (ym rfl rfl (Zg (Zbg rfl rfl) rfl (Zg (Zi rfl Tryd.f83' rfl (by decide) rfl) rfl (Zg (y_load_t rfl Tryd.k81 rfl rfl rfl (vs := [_]) rfl rfl rfl) rfl ?_)))))))
 refine ym rfl rfl (Zt rfl rfl ?_)
 refine do_append_str 1001 trivial rfl rfl Tryd.s81 (by kernel_rfl) rfl (by kernel_rfl) rfl rfl rfl rfl rfl (by omega) ?_
 intro ad' cap'
 refine Zg (Zbg rfl rfl) rfl (Zg (Zi rfl Tryd.f83' rfl (by decide) rfl) rfl (Zt rfl rfl ?_))
 refine do_store_t trivial rfl Tryd.k81 rfl rfl rfl (vs := [_]) rfl rfl rfl (Nat.le_of_ble_eq_true rfl) rfl ?_
 refine Zf (ρ' := [(1, _)]) ⟨rfl, trivial⟩ ?_
 refine Zd (Ze (Zb (ym rfl rfl (Zg (Zat rfl rfl Tryd.str9 rfl) rfl (ya rfl rfl (ya rfl rfl (Zf (ρ' := [(4, _), (5, _)]) ⟨rfl, rfl, trivial⟩ ?_)))))))
 refine Zd (Zaj ?_)
 refine finO2 [1000, 1001] (.tmp rfl) (.tmp rfl) rfl rfl ?_
 exact ⟨rfl, ad', cap', by simp [wrL, bytesC_append]; rfl⟩
theorem wString_fn (b : Nat) (q : Option Addr) (ad : Option Addr) (cap : Nat) (l : Bs) (hl : l.length ≤ 10000000000) (u : View) :
  FnO Tryd.prog 45 [.pointer (some ⟨b, 0, none⟩)] u (wrL b q ad cap l) fun r u' l' => r = str l ∧ u = u' ∧ ∃ o2, l' = [(some b, .bt 85 [.pointer q, .slice ad l.length cap]), (none, o2)] := by
 refine FnO.intro [.tmp 2] Tryd.func45 rfl rfl rfl ?_
 intro w0 D hw0
 refine wc_pin 0 1000 _ 0 rfl rfl ?_
 refine Ze (Zb (ya rfl rfl (Zf (ρ' := [(0, _)]) ⟨rfl, trivial⟩ ?_)))
 refine Zd (Ze ?_)
 refine Zbb Tryd.mixed rfl [(1000, _)] ⟨rfl, trivial⟩ ?_
 refine Zak 0 rfl (by kernel_rfl) (Za (Zbm)) (Zae rfl rfl) rfl ?_
 refine Zak 1 rfl (by kernel_rfl) (Za (Zbm)) (Zbg rfl rfl) rfl ?_
 refine Zak 2 rfl (by kernel_rfl) (Za (Zbm)) (Zi rfl Tryd.f83' rfl (by decide) rfl) rfl ?_
 refine Zak 3 rfl (by kernel_rfl) (Za (Zbm)) (y_load_t rfl Tryd.k81 rfl rfl rfl (vs := [_]) rfl rfl rfl) rfl ?_
 refine Zak 5 rfl (by kernel_rfl) (Za (Zbm)) (Zae rfl rfl) rfl ?_
 refine Zak 6 rfl (by kernel_rfl) (Za (Zbm)) (Zbg rfl rfl) rfl ?_
 refine Zak 7 rfl (by kernel_rfl) (Za (Zbm)) (Zi rfl Tryd.f83' rfl (by decide) rfl) rfl ?_
 refine Zak 8 rfl (by kernel_rfl) (Za (Zbm)) (y_load_t rfl Tryd.k81 rfl rfl rfl (vs := [_]) rfl rfl rfl) rfl ?_
 refine Zak 9 rfl (by kernel_rfl) (Za (Zbm)) (Zx rfl rfl Tryd.s81 rfl) rfl ?_
 refine Zbi (i := 4) rfl rfl (by kernel_rfl) ?_
 refine do_sliceData (e := 5) 1001 ⟨rfl, trivial⟩ (by kernel_rfl) rfl rfl rfl ?_
 intro p7 hp7
 refine Zbi (i := 10) rfl rfl (by kernel_rfl) ?_
 refine do_unsafeString 1001 ⟨rfl, trivial⟩ rfl rfl (by kernel_rfl) (by kernel_rfl) rfl rfl rfl rfl hp7 rfl (by omega) rfl ?_
 refine Zak 11 rfl (by kernel_rfl) (Za (Zbm)) (y_assign rfl rfl) rfl ?_
 refine Zbn (by kernel_rfl) (ρ' := [(2, _)]) ⟨rfl, trivial⟩ ?_
 refine Zd (Zaj ?_)
 refine finO1 [1000, 1001] (.tmp rfl) rfl rfl ?_
 exact ⟨rfl, rfl, _, rfl⟩
theorem itoaI_fn (z : Int) (hz : IntOk z) (u : View) (ht : TabU u) : FnP Tryd.prog 71 [.int .i64 z] u fun v _ => v = str (decI z) := by
 have e : decI z = Lib.itoa z := by
  unfold decI Lib.itoa dec
  split
  ·
   rfl
  ·
   rw [show z.natAbs = z.toNat by omega]
 rw [e]
 refine FnP.of_calls fun w hA => (Tryd.strconv_Itoa z hz.1 hz.2 w (tabIs_of ht hA)).mono ?_
 rintro e w' ⟨rfl, k, os, rfl⟩
 exact ⟨_, rfl, rfl, grow_below w k os⟩
theorem eN_len (z : Int) : (eN z).length = (decI z).length + 1 := by simp [eN]
theorem wNumber_fn (b : Nat) (q : Option Addr) (hq : QOk b q) (ad : Option Addr) (cap : Nat) (l : Bs) (z : Int) (hz : IntOk z) (hl : l.length + (eN z).length ≤ 10000000000) (u : View) (ht : TabU u) :
  FnO Tryd.prog 57 [.pointer (some ⟨b, 0, none⟩), .int .i64 z] u (wrL b q ad cap l) fun r u' l' => r = .tuple #[] ∧ u = u' ∧ ∃ ad' cap', l' = wrL b (selfQ b) ad' cap' (l ++ eN z) := by
 have hln := eN_len z
 refine FnO.intro [] Tryd.func57 rfl rfl rfl ?_
 intro w0 D hw0
 refine wc_pin 0 1000 _ 0 rfl rfl ?_
 refine Zbb Tryd.mixed rfl [] trivial ?_
 refine Zak 0 rfl (by kernel_rfl) (Zbm) (Zae rfl rfl) rfl ?_
 refine Zak 1 rfl (by kernel_rfl) (Zbm) (Zbg rfl rfl) rfl ?_
 refine Zak 2 rfl (by kernel_rfl) (Zbm) (Zi rfl Tryd.f85' rfl (by decide) rfl) rfl ?_
 refine Zak 3 rfl (by kernel_rfl) (Zbm) (Zae rfl rfl) rfl ?_
 refine Zbi (i := 4) rfl rfl (by kernel_rfl) ?_
 refine Zac (caps := []) trivial rfl rfl Tryd.c71 rfl (FnP.mono (itoaI_fn z hz u ht) ?_)
 rintro v u1 hle1 rfl
 refine Zak 5 rfl (by kernel_rfl) (Zbm) (y_str_add (m := [59]) rfl rfl rfl (by simp only [List.length_cons, List.length_nil]; omega)) rfl ?_
 refine Zbi (i := 6) rfl rfl (by kernel_rfl) ?_
 refine Zal (caps := []) (ρ' := []) [1000, 1001] [] trivial rfl rfl rfl Tryd.c70 rfl rfl trivial rfl rfl rfl (FnO.mono (wWrite_fn b q hq ad cap l (decI z ++ [59]) (by simp only [List.length_append, List.length_cons, List.length_nil]; omega) u) ?_)
 rintro v u1 l1 hle1 ⟨rfl, a1, c1, rfl⟩ -
 refine ⟨⟨fun _ h => h, fun _ h => h, trivial⟩, ?_⟩
 refine Zbn (by kernel_rfl) (ρ' := []) trivial ?_
 refine finO0n [1000, 1001]  rfl rfl ?_
 exact ⟨rfl, rfl, a1, c1, rfl⟩
theorem wText_fn (b : Nat) (q : Option Addr) (hq : QOk b q) (ad : Option Addr) (cap : Nat) (l s : Bs) (hl : l.length + (eT s).length ≤ 10000000000) (u : View) (ht : TabU u) :
  FnO Tryd.prog 58 [.pointer (some ⟨b, 0, none⟩), str s] u (wrL b q ad cap l) fun r u' l' => r = .tuple #[] ∧ u = u' ∧ ∃ ad' cap', l' = wrL b (selfQ b) ad' cap' (l ++ eT s) := by
 have hln : (eT s).length = (eN s.length).length + s.length := by simp [eT]
 refine FnO.intro [] Tryd.func58 rfl rfl rfl ?_
 intro w0 D hw0
 refine wc_pin 0 1000 _ 0 rfl rfl ?_
 refine Ze (Zb (ym rfl rfl (ym rfl rfl (Zg (Zat rfl rfl Tryd.str9 rfl) rfl (Zt rfl rfl ?_)))))
 refine Zal (caps := []) (ρ' := [(0, _), (1, _)]) [1000, 1001] [] trivial rfl rfl rfl Tryd.c57 rfl rfl ⟨rfl, rfl, trivial⟩ rfl rfl rfl (FnO.mono (wNumber_fn b q hq ad cap l s.length ⟨by omega, by omega⟩ (by omega) u ht) ?_)
 rintro v u1 l1 hle1 ⟨rfl, rfl, a1, c1, rfl⟩ -
 refine ⟨⟨fun _ h => h, fun _ h => h, trivial⟩, ?_⟩
 refine Zf (ρ' := [(0, _), (1, _)]) ⟨rfl, rfl, trivial⟩ ?_
 refine Zd (Zb (ym rfl rfl (Zg (Zbg rfl rfl) rfl (Zg (Zi rfl Tryd.f85' rfl (by decide) rfl) rfl (ym rfl rfl (Zt rfl rfl ?_))))))
 refine Zal (caps := []) (ρ' := []) [1000, 1001] [] trivial rfl rfl rfl Tryd.c70 rfl rfl trivial rfl rfl rfl (FnO.mono (wWrite_fn b (selfQ b) (.inr rfl) a1 c1 (l ++ eN s.length) s (by simp only [List.length_append]; omega) u) ?_)
 rintro v u1 l1 hle1 ⟨rfl, a2, c2, rfl⟩ -
 refine ⟨⟨fun _ h => h, fun _ h => h, trivial⟩, ?_⟩
 refine Zf (ρ' := []) trivial ?_
 refine finO0n [1000, 1001]  rfl rfl ?_
 exact ⟨rfl, rfl, a2, c2, by simp only [eT, List.append_assoc]⟩
theorem decLen (k : Nat) : ∀ n, n < 10 ^ (k + 1) → (dec n).length ≤ k + 1 := by
 induction k with
 | zero => intro n h; rw [dec_small (by simpa using h)]; simp
 | succ k ih =>
  intro n h
  by_cases h9 : n < 10
  ·
   rw [dec_small h9]; simp
  ·
   rw [dec_big h9]
   have := ih (n / 10) (by rw [Nat.pow_succ] at h; omega)
   simp only [List.length_append, List.length_cons, List.length_nil]; omega
theorem eN_le {z : Int} (h : IntOk z) : (eN z).length ≤ 22 := by
 have h1 := decLen 18 z.natAbs (by obtain ⟨h1, h2⟩ := h; show z.natAbs < 10000000000000000000; omega)
 rw [eN_len]
 unfold decI
 split
 ·
  simp only [List.length_cons]; omega
 ·
  omega
theorem eNn_le {n : Nat} (h : n ≤ 140737488351232) : (eN (n : Int)).length ≤ 22 := eN_le ⟨by omega, by omega⟩
theorem eT_le {s : Bs} (h : s.length ≤ 140737488351232) : (eT s).length ≤ 22 + s.length := by
 have := eNn_le h
 simp only [eT, List.length_append]; omega
theorem flat_bound {α : Type} (e : α → Bs) (f : α → Nat) (xs : List α) (h : ∀ x ∈ xs, (e x).length ≤ f x) : (xs.flatMap e).length ≤ (xs.map f).sum := by
 induction xs with
 | nil => simp
 | cons x xs ih =>
  have h1 := h x (by simp)
  have h2 := ih fun y hy => h y (List.mem_cons_of_mem _ hy)
  simp only [List.flatMap_cons, List.length_append, List.map_cons, List.sum_cons]; omega
theorem sum_add {α : Type} (c : Nat) (f : α → Nat) (xs : List α) : (xs.map fun x => c + f x).sum = c * xs.length + (xs.map f).sum := by
 induction xs with
 | nil => simp
 | cons x xs ih => simp only [List.map_cons, List.sum_cons, ih, List.length_cons, Nat.mul_add]; omega
theorem sumLe {α : Type} (c : Nat) (f : α → Nat) (xs : List α) (h : ∀ x ∈ xs, f x ≤ c) : (xs.map f).sum ≤ c * xs.length := by
 induction xs with
 | nil => simp
 | cons x xs ih =>
  have h1 := h x (by simp)
  have h2 := ih fun y hy => h y (List.mem_cons_of_mem _ hy)
  simp only [List.map_cons, List.sum_cons, List.length_cons, Nat.mul_add]; omega
theorem eA_le {a : DAttr} (ha : AttrOk a) (h1 : a.classes.length ≤ 40) (h2 : a.pairs.length ≤ 40) (h3 : longN a ≤ 600) : (eA a).length ≤ 12000 := by
 obtain ⟨k1, ⟨k2, k3⟩, k4, k5⟩ := ha
 have e1 := eT_le k1
 have e2 := eNn_le k2
 have e3 := eNn_le k4
 have f1 := flat_bound eT (fun s => 22 + s.length) a.classes fun s hs => eT_le (k3 s hs)
 have f2 := flat_bound eP (fun p => 44 + (p.1.length + p.2.length)) a.pairs fun p hp => by
  have g1 := eT_le (k5 p hp).1
  have g2 := eT_le (k5 p hp).2
  simp only [eP, List.length_append]; omega
 rw [sum_add 22 List.length] at f1
 rw [sum_add 44 fun p : Bs × Bs => p.1.length + p.2.length] at f2
 unfold longN at h3
 simp only [eA, eLs, List.length_append]
 omega
theorem eLsT_le {l : List Bs} (h : StrOk l) (h1 : l.length ≤ 9) (h2 : ∀ s ∈ l, s.length ≤ 50000) : (eLs eT l).length ≤ 450300 := by
 have e1 := eNn_le h.1
 have f1 := flat_bound eT (fun s => 22 + s.length) l fun s hs => eT_le (h.2 s hs)
 have f2 := sumLe 50022 (fun s : Bs => 22 + s.length) l fun s hs => by have := h2 s hs; omega
 simp only [eLs, List.length_append]
 omega
theorem eLsC_le {l : List DCite} (h : CiOk l) (h1 : l.length ≤ 9) (h2 : ∀ c ∈ l, c.key.length + c.pre.length + c.suf.length ≤ 50000) : (eLs eC l).length ≤ 450900 := by
 have e1 := eNn_le h.1
 have f1 := flat_bound eC (fun c => 88 + (c.key.length + c.pre.length + c.suf.length)) l fun c hc => by
  obtain ⟨g1, g2, g3⟩ := h.2 c hc
  have e1 := eT_le g1
  have e2 := eT_le g2
  have e3 := eT_le g3
  have e4 : (eN (if c.bare = true then 1 else 0)).length ≤ 22 := eN_le (by split <;> exact ⟨by omega, by omega⟩)
  simp only [eC, List.length_append]; omega
 have f2 := sumLe 50088 (fun c : DCite => 88 + (c.key.length + c.pre.length + c.suf.length)) l fun c hc => by have := h2 c hc; omega
 simp only [eLs, List.length_append]
 omega
mutual
theorem eI_le {u : View} : ∀ (x : Inl) (cs : List Value), InlC u x cs → smI1 x → (eI x).length ≤ 1100000 * sz1 x
 | .mk k t d ti a args cites kids, cs, h, hs => by
  unfold InlC at h
  obtain ⟨ca, va, vc, vk, ks, h1, h2, h3, h4, h5, h6, o1, o2, o3, o4, o5, o6, o7, o8⟩ := h
  unfold smI1 at hs
  obtain ⟨⟨m1, m2, m3, m4, m5, m6, m7, m8⟩, hk⟩ := hs
  have ih := eIs_le kids ks h6 hk
  have e1 := eN_le o1
  have e2 := eT_le o2
  have e3 := eT_le o3
  have e4 := eT_le o4
  have e5 := eA_le o5 m2 m3 m4
  have e6 := eLsT_le o6 m5 m7
  have e7 := eLsC_le o7 m6 m8
  have e8 := eNn_le o8
  simp only [eI, sz1, List.length_append]
  omega
theorem eIs_le {u : View} : ∀ (xs : List Inl) (cs : List Value), InlsC u xs cs → smI xs → (eIs xs).length ≤ 1100000 * szI xs
 | [], cs, h, hs => by simp [eIs]
 | x :: xs, cs, h, hs => by
  unfold InlsC at h
  obtain ⟨c, r, h1, h2, h3⟩ := h
  unfold smI at hs
  have e1 := eI_le x c h2 hs.1
  have e2 := eIs_le xs r h3 hs.2
  simp only [eIs, szI, List.length_append]
  omega
end
theorem eL_le {u : View} {v : Value} {xs : List Inl} (h : InlS u v xs) (hs : smI xs) (hl : xs.length ≤ 140737488351232) : (eL xs).length ≤ 22 + 1100000 * szI xs := by
 obtain ⟨cs, h1, h2⟩ := h
 have e1 := eNn_le hl
 have e2 := eIs_le xs cs h2 hs
 simp only [eL, List.length_append]
 omega
mutual
theorem eB_le {u : View} : ∀ (x : Blk) (cs : List Value), BlkC u x cs → smB1 x → (eB x).length ≤ 1100000 * szb x
 | .mk k lv inf t d ti a line kids, cs, h, hs => by
  unfold BlkC at h
  obtain ⟨ca, vl, vk, ls, ks, h1, h2, h3, h4, h5, h6, o1, o2, o3, o4, o5, o6, o7, o8, o9⟩ := h
  unfold smB1 at hs
  obtain ⟨m1, m2, m3, m4, m5, m6⟩ := hs
  have ih := eBs_le kids ks h6 m6
  have e0 := eL_le ⟨ls, h3, h4⟩ m5 o8
  have e1 := eN_le o1
  have e2 := eN_le o2
  have e3 := eT_le o3
  have e4 := eT_le o4
  have e5 := eT_le o5
  have e6 := eT_le o6
  have e7 := eA_le o7 m2 m3 m4
  have e8 := eNn_le o9
  simp only [eB, szb, List.length_append]
  omega
theorem eBs_le {u : View} : ∀ (xs : List Blk) (cs : List Value), BlksC u xs cs → smB xs → (eBs xs).length ≤ 1100000 * szB xs
 | [], cs, h, hs => by simp [eBs]
 | x :: xs, cs, h, hs => by
  unfold BlksC at h
  obtain ⟨c, r, h1, h2, h3⟩ := h
  unfold smB at hs
  have e1 := eB_le x c h2 hs.1
  have e2 := eBs_le xs r h3 hs.2
  simp only [eBs, szB, List.length_append]
  omega
end
def len1 : Bs → Nat
 | [] => 0
 | c :: s => lead (sp c) s + 1
theorem runs_step {s : Bs} (h : s ≠ []) : runs s = s.take (len1 s) :: runs (s.drop (len1 s)) := by
 cases s with
 | nil => exact absurd rfl h
 | cons c s => rw [runs]; simp [len1]
theorem lead_of (b : Bool) : ∀ (t : Bs) (j : Nat), j ≤ t.length → (∀ i c, i < j → t[i]? = some c → sp c = b) → (∀ c, t[j]? = some c → sp c ≠ b) → lead b t = j
 | [], j, hj, _, _ => by simp at hj; subst hj; rfl
 | c :: t, 0, hj, _, he => by
  have := he c rfl
  simp only [lead, if_neg this]
 | c :: t, j + 1, hj, ha, he => by
  have h0 := ha 0 c (by omega) rfl
  have ih := lead_of b t j (by simpa using hj) (fun i d hi hd => ha (i + 1) d (by omega) (by simpa using hd)) (fun d hd => he d (by simpa using hd))
  simp only [lead, if_pos h0, ih]
theorem len1_of {t : Bs} {b : Bool} {j : Nat} (h1 : 1 ≤ j) (hj : j ≤ t.length) (ha : ∀ i c, i < j → t[i]? = some c → sp c = b) (he : ∀ c, t[j]? = some c → sp c ≠ b) : len1 t = j := by
 cases t with
 | nil => simp at hj; omega
 | cons c t =>
  obtain ⟨j, rfl⟩ : ∃ k, j = k + 1 := ⟨j - 1, by omega⟩
  have h0 := ha 0 c (by omega) rfl
  subst h0
  simp only [len1]
  rw [lead_of (sp c) t j (by simpa using hj) (fun i d hi hd => ha (i + 1) d (by omega) (by simpa using hd)) (fun d hd => he d (by simpa using hd))]
theorem len1_le : ∀ t : Bs, len1 t ≤ t.length
 | [] => Nat.le_refl _
 | c :: t => by
  have := lead_le (sp c) t
  simp only [len1, List.length_cons]; omega
theorem len1_pos {t : Bs} (h : t ≠ []) : 1 ≤ len1 t := by
 cases t with
 | nil => exact absurd rfl h
 | cons c t => simp [len1]
def mrg (ka kb : Int → Int) (L : List Chg) (c : Chg) : List Chg :=
 match L.getLast? with
 | some p => if p.kind = 2 ∧ c.kind = 3 ∧ ka p.src = kb c.dst then L.dropLast ++ [⟨4, p.src, c.dst⟩] else L ++ [c]
 | none => L ++ [c]
def mrgL (ka kb : Int → Int) (l : List Chg) : List Chg := l.foldl (mrg ka kb) []
theorem mrgL_take (ka kb : Int → Int) {l : List Chg} {i : Nat} {c : Chg} (h : l[i]? = some c) : mrgL ka kb (l.take (i + 1)) = mrg ka kb (mrgL ka kb (l.take i)) c := by
 obtain ⟨hlt, rfl⟩ := List.getElem?_eq_some_iff.1 h
 rw [List.take_succ_eq_append_getElem hlt]
 unfold mrgL
 rw [List.foldl_append]
 rfl
theorem mrg_len (ka kb : Int → Int) (L : List Chg) (c : Chg) : (mrg ka kb L c).length ≤ L.length + 1 := by
 unfold mrg
 split
 ·
  split
  ·
   simp only [List.length_append, List.length_dropLast, List.length_cons, List.length_nil]; omega
  ·
   simp
 ·
  simp
theorem mrgL_len (ka kb : Int → Int) (l : List Chg) (i : Nat) : (mrgL ka kb (l.take i)).length ≤ i := by
 induction i with
 | zero => simp [mrgL]
 | succ i ih =>
  by_cases hi : i < l.length
  ·
   rw [mrgL_take ka kb (List.getElem?_eq_getElem hi)]
   have := mrg_len ka kb (mrgL ka kb (l.take i)) l[i]
   omega
  ·
   rw [List.take_of_length_le (by omega)]
   rw [List.take_of_length_le (by omega)] at ih
   omega
def okC (n m : Nat) (c : Chg) : Prop := (c.kind = 2 → 0 ≤ c.src ∧ c.src < n ∧ c.dst = -1) ∧ (c.kind = 3 → 0 ≤ c.dst ∧ c.dst < m)
theorem gone_ok {n m i x : Nat} (h : x ≤ n) : ∀ c ∈ goneL i x, okC n m c := by
 intro c hc
 simp only [goneL, List.mem_map, List.mem_range'_1] at hc
 obtain ⟨j, ⟨h1, h2⟩, rfl⟩ := hc
 exact ⟨fun _ => ⟨by simp, by simp; omega, rfl⟩, fun h => by simp at h⟩
theorem new_ok {n m k y : Nat} (h : y ≤ m) : ∀ c ∈ newL k y, okC n m c := by
 intro c hc
 simp only [newL, List.mem_map, List.mem_range'_1] at hc
 obtain ⟨j, ⟨h1, h2⟩, rfl⟩ := hc
 exact ⟨fun h => by simp at h, fun _ => ⟨by simp, by simp; omega⟩⟩
theorem steps_ok {same : Nat → Nat → Bool} {n m : Nat} : ∀ (w : List (Option Nat)) (x i k : Nat), Valid same m w x k → x + w.length = n → ∀ c ∈ stepsOf n m w x i k, okC n m c
 | [], x, i, k, _, hx, c, hc => by
  simp only [stepsOf, List.mem_append] at hc
  rcases hc with hc | hc
  ·
   exact gone_ok (Nat.le_refl _) c hc
  ·
   exact new_ok (Nat.le_refl _) c hc
 | none :: w, x, i, k, hv, hx, c, hc => by
  simp only [stepsOf] at hc
  exact steps_ok w (x + 1) i k (by simpa [Valid] using hv) (by simp at hx; omega) c hc
 | some y :: w, x, i, k, hv, hx, c, hc => by
  simp only [stepsOf, List.mem_append, List.mem_cons] at hc
  simp only [Valid] at hv
  simp only [List.length_cons] at hx
  rcases hc with (hc | hc) | hc | hc
  ·
   exact gone_ok (by omega) c hc
  ·
   exact new_ok (by omega) c hc
  ·
   subst hc; exact ⟨fun h => by simp [sameC] at h, fun h => by simp [sameC] at h⟩
  ·
   exact steps_ok w (x + 1) (x + 1) (y + 1) hv.2.2.2 (by omega) c hc
theorem textSteps_ok (same : Nat → Nat → Bool) (n m : Nat) : ∀ c ∈ textSteps same n m, okC n m c :=
 steps_ok (same := same) _ 0 0 0 (rows_valid same n m n 0 0 _) (by rw [mat, rows_len]; omega)
theorem mrg_ok {ka kb : Int → Int} {n m : Nat} {L : List Chg} {c : Chg} (hL : ∀ p ∈ L, okC n m p) (hc : okC n m c) : ∀ p ∈ mrg ka kb L c, okC n m p := by
 intro p hp
 unfold mrg at hp
 split at hp
 ·
  split at hp
  ·
   rcases List.mem_append.1 hp with hp | hp
   ·
    exact hL p ((List.dropLast_sublist L).subset hp)
   ·
    rw [List.mem_singleton] at hp; subst hp; exact ⟨fun h => by simp at h, fun h => by simp at h⟩
  ·
   rcases List.mem_append.1 hp with hp | hp
   ·
    exact hL p hp
   ·
    rw [List.mem_singleton] at hp; subst hp; exact hc
 ·
  rcases List.mem_append.1 hp with hp | hp
  ·
   exact hL p hp
  ·
   rw [List.mem_singleton] at hp; subst hp; exact hc
theorem mrgL_ok {ka kb : Int → Int} {n m : Nat} {l : List Chg} (hl : ∀ p ∈ l, okC n m p) : ∀ i, ∀ p ∈ mrgL ka kb (l.take i), okC n m p := by
 intro i
 induction i with
 | zero => simp [mrgL]
 | succ i ih =>
  by_cases hi : i < l.length
  ·
   rw [mrgL_take ka kb (List.getElem?_eq_getElem hi)]
   exact mrg_ok ih (hl _ (List.getElem_mem hi))
  ·
   rw [List.take_of_length_le (by omega)]
   rw [List.take_of_length_le (by omega)] at ih
   exact ih
set_option linter.unusedSimpArgs false
set_option linter.unusedVariables false
set_option maxRecDepth 4000
theorem flat_snoc {α : Type} (e : α → Bs) {xs : List α} {i : Nat} {x : α} (h : xs[i]? = some x) : (xs.take (i + 1)).flatMap e = (xs.take i).flatMap e ++ e x := by
 obtain ⟨hlt, rfl⟩ := List.getElem?_eq_some_iff.1 h
 rw [List.take_succ_eq_append_getElem hlt, List.flatMap_append]
 simp
theorem flat_le {α : Type} (e : α → Bs) (xs : List α) (i : Nat) : ((xs.take i).flatMap e).length ≤ (xs.flatMap e).length := by
 conv => rhs; rw [← List.take_append_drop i xs]
 rw [List.flatMap_append, List.length_append]
 omega
theorem eIs_flat : ∀ xs : List Inl, eIs xs = xs.flatMap eI
 | [] => by simp [eIs]
 | x :: xs => by rw [eIs, eIs_flat xs, List.flatMap_cons]
theorem eBs_flat : ∀ xs : List Blk, eBs xs = xs.flatMap eB
 | [] => by simp [eBs]
 | x :: xs => by rw [eBs, eBs_flat xs, List.flatMap_cons]
theorem pairsC_cut2 {l : List (Bs × Bs)} {t : Nat} {p : Bs × Bs} (h : l[t]? = some p) : cut (pairsC l) (t * 2) 2 = [str p.1, str p.2] := cut_pairsC h
abbrev wrS (b : Nat) (ad : Option Addr) (cap : Nat) (l : Bs) : List PO := wrL b (selfQ b) ad cap l
set_option maxHeartbeats 4000000 in
theorem wAttr_fn (b : Nat) (ad : Option Addr) (cap : Nat) (l : Bs) (a : DAttr) (vc vp : Value) (u : View) (hA : AttrOk a) (hl : l.length + (eA a).length ≤ 10000000000) (ht : TabU u) (hc : StrS u vc a.classes) (hp : PrS u vp a.pairs) :
  FnO Tryd.prog 59 [.pointer (some ⟨b, 0, none⟩), .agg #[str a.id, vc, vp]] u (wrS b ad cap l) fun r u' l' => r = .tuple #[] ∧ u = u' ∧ ∃ ad' cap', l' = wrS b ad' cap' (l ++ eA a) := by
 obtain ⟨a1, a2, a3⟩ := hA
 obtain ⟨adc, capc, rfl, hcs⟩ := hc
 obtain ⟨adp, capp, rfl, hps⟩ := hp
 simp only [eA, eLs, List.length_append] at hl
 have hcl : a.classes.length ≤ 140737488351232 := a2.1
 have hpl : a.pairs.length ≤ 140737488351232 := a3.1
 refine FnO.intro [] Tryd.func59 rfl rfl rfl ?_
 intro w0 D hw0
 refine wc_pin 0 1000 _ 0 rfl rfl ?_
 refine Ze (Zb (Zt rfl rfl ?_))
 refine do_box trivial rfl (cs := [_, _, _]) rfl rfl rfl rfl ?_
 refine Zf (ρ' := [(0, _), (3, _)]) ⟨rfl, rfl, trivial⟩ ?_
 refine Zd (Ze (Zb (ym rfl rfl (Zg (Zi rfl Tryd.f37' rfl (by decide) rfl) rfl (Zg (Zl rfl Tryd.k9 rfl rfl rfl (vs := [_]) rfl rfl rfl) rfl (Zt rfl rfl ?_))))))
 refine Zal (caps := []) (ρ' := [(0, _), (3, _)]) [1000, 1001] [] trivial rfl rfl rfl Tryd.c58 rfl rfl ⟨rfl, rfl, trivial⟩ rfl rfl rfl (FnO.mono (wText_fn b (selfQ b) (.inr rfl) ad cap l a.id (by omega) u ht) ?_)
 rintro v u1 l1 hle1 ⟨rfl, rfl, b1, c1, rfl⟩ -
 refine ⟨⟨fun _ h => h, fun _ h => h, trivial⟩, ?_⟩
 refine Zf (ρ' := [(0, _), (3, _)]) ⟨rfl, rfl, trivial⟩ ?_
 refine Zd (Ze (Zb (ym rfl rfl (Zg (Zi rfl Tryd.f37' rfl (by decide) rfl) rfl (Zg (Zl rfl Tryd.k22 rfl rfl rfl (vs := [_]) rfl rfl rfl) rfl (Zg (Zx rfl rfl Tryd.s22 rfl) rfl (Zt rfl rfl ?_)))))))
 refine Zal (caps := []) (ρ' := [(0, _), (3, _)]) [1000, 1001] [] trivial rfl rfl rfl Tryd.c57 rfl rfl ⟨rfl, rfl, trivial⟩ rfl rfl rfl (FnO.mono (wNumber_fn b (selfQ b) (.inr rfl) b1 c1 (l ++ eT a.id) a.classes.length ⟨by have := a2.1; omega, by have := a2.1; omega⟩ (by simp only [List.length_append]; omega) u ht) ?_)
 rintro v u1 l1 hle1 ⟨rfl, rfl, b2, c2, rfl⟩ -
 refine ⟨⟨fun _ h => h, fun _ h => h, trivial⟩, ?_⟩
 obtain ⟨l1, hl1⟩ : ∃ l1, l1 = l ++ eT a.id ++ eN a.classes.length := ⟨_, rfl⟩
 have hl1n : l1.length = l.length + (eT a.id).length + (eN a.classes.length).length := by rw [hl1]; simp only [List.length_append]
 rw [← hl1]
 refine Zf (ρ' := [(0, _), (3, _)]) ⟨rfl, rfl, trivial⟩ ?_
 refine Zd (Ze (Ze (Zb (Zg (Zi rfl Tryd.f37' rfl (by decide) rfl) rfl (Zg (Zl rfl Tryd.k22 rfl rfl rfl (vs := [_]) rfl rfl rfl) rfl (Zg (Zx rfl rfl Tryd.s22 rfl) rfl (ym rfl rfl (Zf (ρ' := [(0, _), (3, _), (18, _), (19, _), (20, _)]) ⟨rfl, rfl, rfl, rfl, rfl, trivial⟩ ?_))))))))
 refine Zd (Zq ?_)
 refine Zaq (fun m_0 ρ σ u' => ∃ i : Nat, i + m_0 = a.classes.length ∧ VLe u u' ∧ ∃ (ac : Option Addr) (cc : Nat), σ = [(3, (none, .box [str a.id, .slice adc a.classes.length capc, .slice adp a.pairs.length capp])), (1000, (some b, .bt 85 [.pointer (selfQ b), .slice ac (l1 ++ (a.classes.take i).flatMap eT).length cc])), (1001, (none, .rwv (.slice ac (l1 ++ (a.classes.take i).flatMap eT).length cc) 5 1 (l1 ++ (a.classes.take i).flatMap eT).length (bytesC (l1 ++ (a.classes.take i).flatMap eT))))] ∧ ρ = [(0, .p 1000 0), (3, .p 3 0), (18, .v (.slice adc a.classes.length capc)), (19, .v (.int .i64 a.classes.length)), (20, .v (.int .i64 i))] ∧ (u = u')) (a.classes.length) ?_ ?_
 ·
  refine ⟨[(0, _), (3, _), (18, _), (19, _), (20, _)], [(3, _), (1000, _), (1001, _)], ⟨rfl, rfl, rfl, rfl, rfl, trivial⟩, ⟨rfl, rfl, rfl, trivial⟩, 0, by omega, VLe.refl _, b2, c2, (by simp), rfl, ?_⟩
  rfl
 ·
  rintro m ρ σ u' ⟨i, hi4, hle4, ac, cc, rfl, rfl, rfl⟩
  refine Ze (Zb (Zg (Zav rfl rfl rfl) rfl (Zf (ρ' := [(0, _), (3, _), (18, _), (19, _), (20, _), (21, _)]) ⟨rfl, rfl, rfl, rfl, rfl, rfl, trivial⟩ ?_)))
  refine Zd (Ze ?_)
  refine Zw rfl (fun hb4 => ?_) (fun hb4 => ?_)
  ·
   have h4 := of_decide_eq_true hb4
   obtain ⟨s, hs⟩ : ∃ s, a.classes[i]? = some s := ⟨_, List.getElem?_eq_getElem (by omega)⟩
   have hcut := strsC_cut hs
   have hsn := flat_snoc eT hs
   have hle := flat_le eT a.classes (i + 1)
   rw [hsn, List.length_append] at hle
   have hsl := a2.2 s (List.mem_of_getElem? hs)
   refine Zv (Zd (Ze (Zq (Ze (Zb (Zg (Zs rfl Tryd.s22 rfl rfl hcs rfl (by omega)) rfl (Zg (Zr rfl Tryd.k9 rfl hcs (by omega) hcut (vs := [_]) rfl rfl rfl rfl) rfl ?_)))))))
   refine ya rfl rfl (Zf (ρ' := [(0, _), (3, _), (5, _), (18, _), (19, _), (20, _)]) ⟨rfl, rfl, rfl, rfl, rfl, rfl, trivial⟩ ?_)
   refine Zd (Zb (ym rfl rfl (ym rfl rfl (Zt rfl rfl ?_))))
   refine Zal (caps := []) (ρ' := [(0, _), (3, _), (18, _), (19, _), (20, _)]) [1000, 1001] [] trivial rfl rfl rfl Tryd.c58 rfl rfl ⟨rfl, rfl, rfl, rfl, rfl, trivial⟩ rfl rfl rfl (FnO.mono (wText_fn b (selfQ b) (.inr rfl) ac cc (l1 ++ (a.classes.take i).flatMap eT) s (by simp only [List.length_append]; omega) u ht) ?_)
   rintro v u1 l1 hle1 ⟨rfl, rfl, b3, c3, rfl⟩ -
   refine ⟨⟨fun _ h => h, fun _ h => h, trivial⟩, ?_⟩
   refine Zf (ρ' := [(0, _), (3, _), (18, _), (19, _), (20, _)]) ⟨rfl, rfl, rfl, rfl, rfl, trivial⟩ ?_
   refine Zah (Zd (Zb (Zg (Zap rfl rfl rfl (Zk (by omega))) rfl ?_)))
   refine ym rfl rfl (Zf (ρ' := [(0, _), (3, _), (18, _), (19, _), (20, _)]) ⟨rfl, rfl, rfl, rfl, rfl, trivial⟩ ?_)
   refine Zab ?_
   refine ⟨m - 1, [(0, _), (3, _), (18, _), (19, _), (20, _)], [(3, _), (1000, _), (1001, _)], by omega, ⟨rfl, rfl, rfl, rfl, rfl, trivial⟩, ⟨rfl, rfl, rfl, trivial⟩, i + 1, by omega, hle4, b3, c3, (by rw [hsn, ← List.append_assoc]), (by first | rfl | simp), ?_⟩
   rfl
  ·
   have h4 := of_decide_eq_false hb4
   rw [List.take_of_length_le (by omega)]
   refine Zan ?_
   refine Zh (Zh ?_)
   refine Zu ?_
   refine Zd (Ze (Zb (ym rfl rfl (Zg (Zi rfl Tryd.f37' rfl (by decide) rfl) rfl (Zg (Zl rfl Tryd.k28 rfl rfl rfl (vs := [_]) rfl rfl rfl) rfl (Zg (Zx rfl rfl Tryd.s28 rfl) rfl (Zt rfl rfl ?_)))))))
   refine Zal (caps := []) (ρ' := [(0, _), (3, _)]) [1000, 1001] [] trivial rfl rfl rfl Tryd.c57 rfl rfl ⟨rfl, rfl, trivial⟩ rfl rfl rfl (FnO.mono (wNumber_fn b (selfQ b) (.inr rfl) ac cc (l1 ++ a.classes.flatMap eT) a.pairs.length ⟨by have := a3.1; omega, by have := a3.1; omega⟩ (by simp only [List.length_append]; omega) u ht) ?_)
   rintro v u1 l1 hle1 ⟨rfl, rfl, b4, c4, rfl⟩ -
   refine ⟨⟨fun _ h => h, fun _ h => h, trivial⟩, ?_⟩
   obtain ⟨l2, hl2⟩ : ∃ l2, l2 = l1 ++ a.classes.flatMap eT ++ eN a.pairs.length := ⟨_, rfl⟩
   have hl2n : l2.length = l1.length + (a.classes.flatMap eT).length + (eN a.pairs.length).length := by rw [hl2]; simp only [List.length_append]
   rw [← hl2]
   refine Zf (ρ' := [(0, _), (3, _)]) ⟨rfl, rfl, trivial⟩ ?_
   refine Zd (Ze (Zb (Zg (Zi rfl Tryd.f37' rfl (by decide) rfl) rfl (Zg (Zl rfl Tryd.k28 rfl rfl rfl (vs := [_]) rfl rfl rfl) rfl (Zg (Zx rfl rfl Tryd.s28 rfl) rfl (ym rfl rfl (Zf (ρ' := [(0, _), (34, _), (35, _), (36, _)]) ⟨rfl, rfl, rfl, rfl, trivial⟩ ?_)))))))
   refine Zd (Zq ?_)
   refine Zaq (fun m_0 ρ σ u' => ∃ j : Nat, j + m_0 = a.pairs.length ∧ VLe u u' ∧ ∃ (ae : Option Addr) (ce : Nat), σ = [(1000, (some b, .bt 85 [.pointer (selfQ b), .slice ae (l2 ++ (a.pairs.take j).flatMap eP).length ce])), (1001, (none, .rwv (.slice ae (l2 ++ (a.pairs.take j).flatMap eP).length ce) 5 1 (l2 ++ (a.pairs.take j).flatMap eP).length (bytesC (l2 ++ (a.pairs.take j).flatMap eP))))] ∧ ρ = [(0, .p 1000 0), (34, .v (.slice adp a.pairs.length capp)), (35, .v (.int .i64 a.pairs.length)), (36, .v (.int .i64 j))] ∧ (u = u')) (a.pairs.length) ?_ ?_
   ·
    refine ⟨[(0, _), (34, _), (35, _), (36, _)], [(1000, _), (1001, _)], ⟨rfl, rfl, rfl, rfl, trivial⟩, ⟨rfl, rfl, trivial⟩, 0, by omega, VLe.refl _, b4, c4, (by simp), rfl, ?_⟩
    rfl
   ·
    rintro mj ρ σ u' ⟨j, hi10, hle10, ae, ce, rfl, rfl, rfl⟩
    refine Ze (Zb (Zg (Zav rfl rfl rfl) rfl (Zf (ρ' := [(0, _), (34, _), (35, _), (36, _), (37, _)]) ⟨rfl, rfl, rfl, rfl, rfl, trivial⟩ ?_)))
    refine Zd (Ze ?_)
    refine Zw rfl (fun hb10 => ?_) (fun hb10 => ?_)
    ·
     have h10 := of_decide_eq_true hb10
     obtain ⟨p, hpp⟩ : ∃ p, a.pairs[j]? = some p := ⟨_, List.getElem?_eq_getElem (by omega)⟩
     have hcut := pairsC_cut2 hpp
     have hsn := flat_snoc eP hpp
     have hle := flat_le eP a.pairs (j + 1)
     rw [hsn, List.length_append] at hle
     have hsl := a3.2 p (List.mem_of_getElem? hpp)
     have hep : (eP p).length = (eT p.1).length + (eT p.2).length := by simp [eP]
     have he1 : p.1.length ≤ (eT p.1).length := by simp [eT]
     have he2 : p.2.length ≤ (eT p.2).length := by simp [eT]
     refine Zv (Zd (Ze (Zq (Ze (Zb (Zg (Zs rfl Tryd.s28 rfl rfl hps rfl (by omega)) rfl (Zg (Zr rfl Tryd.k65 rfl hps (by omega) hcut (vs := [_, _]) rfl rfl rfl rfl) rfl (Zt rfl rfl ?_))))))))
     refine Zau trivial Tryd.z65 rfl rfl rfl ?_
     refine Zt rfl rfl ?_
     refine Zao trivial rfl Tryd.k65 rfl rfl rfl (vs := [_, _]) rfl rfl (by first | rfl | assumption | simp [Value.oneCell', str]) (Nat.le_of_ble_eq_true rfl) rfl ?_
     refine Zf (ρ' := [(0, _), (7, _), (34, _), (35, _), (36, _)]) ⟨rfl, rfl, rfl, rfl, rfl, trivial⟩ ?_
     refine Zd (Ze (Zb (ym rfl rfl (Zg (Zi rfl Tryd.f65' rfl (by decide) rfl) rfl (Zg (Zl rfl Tryd.k9 rfl rfl rfl (vs := [_]) rfl rfl rfl) rfl (Zt rfl rfl ?_))))))
     refine Zal (caps := []) (ρ' := [(0, _), (7, _), (34, _), (35, _), (36, _)]) [1000, 1001] [] trivial rfl rfl rfl Tryd.c58 rfl rfl ⟨rfl, rfl, rfl, rfl, rfl, trivial⟩ rfl rfl rfl (FnO.mono (wText_fn b (selfQ b) (.inr rfl) ae ce (l2 ++ (a.pairs.take j).flatMap eP) p.1 (by simp only [List.length_append]; omega) u ht) ?_)
     rintro v u1 l1 hle1 ⟨rfl, rfl, b5, c5, rfl⟩ -
     refine ⟨⟨fun _ h => h, fun _ h => h, trivial⟩, ?_⟩
     refine Zf (ρ' := [(0, _), (7, _), (34, _), (35, _), (36, _)]) ⟨rfl, rfl, rfl, rfl, rfl, trivial⟩ ?_
     refine Zd (Zb (ym rfl rfl (Zg (Zi rfl Tryd.f65' rfl (by decide) rfl) rfl (Zg (Zl rfl Tryd.k9 rfl rfl rfl (vs := [_]) rfl rfl rfl) rfl (Zt rfl rfl ?_)))))
     refine Zal (caps := []) (ρ' := [(0, _), (34, _), (35, _), (36, _)]) [1000, 1001] [] trivial rfl rfl rfl Tryd.c58 rfl rfl ⟨rfl, rfl, rfl, rfl, trivial⟩ rfl rfl rfl (FnO.mono (wText_fn b (selfQ b) (.inr rfl) b5 c5 (l2 ++ (a.pairs.take j).flatMap eP ++ eT p.1) p.2 (by simp only [List.length_append]; omega) u ht) ?_)
     rintro v u1 l1 hle1 ⟨rfl, rfl, b6, c6, rfl⟩ -
     refine ⟨⟨fun _ h => h, fun _ h => h, trivial⟩, ?_⟩
     refine Zf (ρ' := [(0, _), (34, _), (35, _), (36, _)]) ⟨rfl, rfl, rfl, rfl, trivial⟩ ?_
     refine Zah (Zd (Zb (Zg (Zap rfl rfl rfl (Zk (by omega))) rfl ?_)))
     refine ym rfl rfl (Zf (ρ' := [(0, _), (34, _), (35, _), (36, _)]) ⟨rfl, rfl, rfl, rfl, trivial⟩ ?_)
     refine Zab ?_
     refine ⟨mj - 1, [(0, _), (34, _), (35, _), (36, _)], [(1000, _), (1001, _)], by omega, ⟨rfl, rfl, rfl, rfl, trivial⟩, ⟨rfl, rfl, trivial⟩, j + 1, by omega, hle10, b6, c6, (by rw [hsn, ← List.append_assoc, eP, ← List.append_assoc]), (by first | rfl | simp), ?_⟩
     rfl
    ·
     have h10 := of_decide_eq_false hb10
     rw [List.take_of_length_le (by omega)]
     refine Zan ?_
     refine Zh (Zh ?_)
     refine Zu ?_
     refine finO0n [1000, 1001]  rfl rfl ?_
     exact ⟨rfl, rfl, ae, ce, by rw [hl2, hl1]; simp only [eA, eLs, List.append_assoc]⟩
abbrev ptrB (b : Nat) : Value := .pointer (some ⟨b, 0, none⟩)
abbrev wrote (b : Nat) (l s : Bs) (u : View) : Value → View → List PO → Prop := fun r u' l' => r = .tuple #[] ∧ u = u' ∧ ∃ ad' cap', l' = wrS b ad' cap' (l ++ s)
def LineP (xs : List Inl) : Prop := ∀ (b : Nat) (ad : Option Addr) (cap : Nat) (l : Bs) (v : Value) (u : View), xs.length ≤ 140737488351232 → l.length + (eL xs).length ≤ 10000000000 → TabU u → InlS u v xs →
 FnO Tryd.prog 60 [ptrB b, v] u (wrS b ad cap l) (wrote b l (eL xs) u)
def InlP (x : Inl) : Prop := ∀ (b : Nat) (q : Option Addr) (hq : QOk b q) (ad : Option Addr) (cap : Nat) (l : Bs) (cs : List Value) (u : View), l.length + (eI x).length ≤ 10000000000 → TabU u → InlC u x cs →
 FnO Tryd.prog 48 [ptrB b, .agg cs.toArray] u (wrL b q ad cap l) (wrote b l (eI x) u)
def BlkP (x : Blk) : Prop := ∀ (b : Nat) (q : Option Addr) (hq : QOk b q) (ad : Option Addr) (cap : Nat) (l : Bs) (cs : List Value) (u : View), l.length + (eB x).length ≤ 10000000000 → TabU u → BlkC u x cs →
 FnO Tryd.prog 44 [ptrB b, .agg cs.toArray] u (wrL b q ad cap l) (wrote b l (eB x) u)
set_option maxHeartbeats 8000000 in
theorem wInline_fn (k : Int) (t d ti : Bs) (a : DAttr) (args : List Bs) (cites : List DCite) (kids : List Inl) (hkids : LineP kids) : InlP (.mk k t d ti a args cites kids) := by
 intro b q hq ad cap l cs u hl ht hcs
 obtain ⟨vc, vp, va, vt, vk, rfl, s1, s2, s3, s4, s5, hk, o2, o3, o4, o5, o6, o7, o8⟩ := hcs.cells
 have hargs : args.length ≤ 140737488351232 := o6.1
 have hcites : cites.length ≤ 140737488351232 := o7.1
 have s1b := s1
 have s2b := s2
 obtain ⟨ac1, cc1, rfl, -⟩ := s1b
 obtain ⟨ac2, cc2, rfl, -⟩ := s2b
 obtain ⟨ac3, cc3, rfl, h3⟩ := s3
 obtain ⟨ac4, cc4, rfl, h4⟩ := s4
 have s5b := s5
 obtain ⟨ks, ⟨ac5, cc5, rfl, -⟩, -⟩ := s5b
 have hkl : (eL kids).length = (eN kids.length).length + (eIs kids).length := by simp [eL]
 simp only [eI, eLs, List.length_append] at hl
 refine FnO.intro [] Tryd.func48 rfl rfl rfl ?_
 intro w0 D hw0
 refine wc_pin 0 1000 _ 0 rfl rfl ?_
 refine Ze (Zb (Zt rfl rfl ?_))
 refine do_box trivial rfl (cs := [_, _, _, _, _, _, _, _, _, _]) rfl rfl rfl rfl ?_
 refine Zf (ρ' := [(0, _), (3, _)]) ⟨rfl, rfl, trivial⟩ ?_
 refine Zd (Ze (Zb (ym rfl rfl (Zg (Zi rfl Tryd.f44' rfl (by decide) rfl) rfl (Zg (Zl rfl Tryd.k3 rfl rfl rfl (vs := [_]) rfl rfl rfl) rfl (Zt rfl rfl ?_))))))
 refine Zal (caps := []) (ρ' := [(0, _), (3, _)]) [1000, 1001] [] trivial rfl rfl rfl Tryd.c57 rfl rfl ⟨rfl, rfl, trivial⟩ rfl rfl rfl (FnO.mono (wNumber_fn b q hq ad cap l k hk (by omega) u ht) ?_)
 rintro v u1 l1 hle1 ⟨rfl, rfl, b1, c1, rfl⟩ -
 refine ⟨⟨fun _ h => h, fun _ h => h, trivial⟩, ?_⟩
 refine Zf (ρ' := [(0, _), (3, _)]) ⟨rfl, rfl, trivial⟩ ?_
 refine Zd (Ze (Zb (ym rfl rfl (Zg (Zi rfl Tryd.f44' rfl (by decide) rfl) rfl (Zg (Zl rfl Tryd.k9 rfl rfl rfl (vs := [_]) rfl rfl rfl) rfl (Zt rfl rfl ?_))))))
 refine Zal (caps := []) (ρ' := [(0, _), (3, _)]) [1000, 1001] [] trivial rfl rfl rfl Tryd.c58 rfl rfl ⟨rfl, rfl, trivial⟩ rfl rfl rfl (FnO.mono (wText_fn b (selfQ b) (.inr rfl) b1 c1 (l ++ eN k) t (by simp only [List.length_append]; omega) u ht) ?_)
 rintro v u1 l1 hle1 ⟨rfl, rfl, b2, c2, rfl⟩ -
 refine ⟨⟨fun _ h => h, fun _ h => h, trivial⟩, ?_⟩
 refine Zf (ρ' := [(0, _), (3, _)]) ⟨rfl, rfl, trivial⟩ ?_
 refine Zd (Ze (Zb (ym rfl rfl (Zg (Zi rfl Tryd.f44' rfl (by decide) rfl) rfl (Zg (Zl rfl Tryd.k9 rfl rfl rfl (vs := [_]) rfl rfl rfl) rfl (Zt rfl rfl ?_))))))
 refine Zal (caps := []) (ρ' := [(0, _), (3, _)]) [1000, 1001] [] trivial rfl rfl rfl Tryd.c58 rfl rfl ⟨rfl, rfl, trivial⟩ rfl rfl rfl (FnO.mono (wText_fn b (selfQ b) (.inr rfl) b2 c2 (l ++ eN k ++ eT t) d (by simp only [List.length_append]; omega) u ht) ?_)
 rintro v u1 l1 hle1 ⟨rfl, rfl, b3, c3, rfl⟩ -
 refine ⟨⟨fun _ h => h, fun _ h => h, trivial⟩, ?_⟩
 refine Zf (ρ' := [(0, _), (3, _)]) ⟨rfl, rfl, trivial⟩ ?_
 refine Zd (Ze (Zb (ym rfl rfl (Zg (Zi rfl Tryd.f44' rfl (by decide) rfl) rfl (Zg (Zl rfl Tryd.k9 rfl rfl rfl (vs := [_]) rfl rfl rfl) rfl (Zt rfl rfl ?_))))))
 refine Zal (caps := []) (ρ' := [(0, _), (3, _)]) [1000, 1001] [] trivial rfl rfl rfl Tryd.c58 rfl rfl ⟨rfl, rfl, trivial⟩ rfl rfl rfl (FnO.mono (wText_fn b (selfQ b) (.inr rfl) b3 c3 (l ++ eN k ++ eT t ++ eT d) ti (by simp only [List.length_append]; omega) u ht) ?_)
 rintro v u1 l1 hle1 ⟨rfl, rfl, b4, c4, rfl⟩ -
 refine ⟨⟨fun _ h => h, fun _ h => h, trivial⟩, ?_⟩
 refine Zf (ρ' := [(0, _), (3, _)]) ⟨rfl, rfl, trivial⟩ ?_
 refine Zd (Ze (Zb (ym rfl rfl (Zg (Zi rfl Tryd.f44' rfl (by decide) rfl) rfl (Zg (Zl rfl Tryd.k37 rfl rfl rfl (vs := [_, _, _]) rfl rfl rfl) rfl (Zt rfl rfl ?_))))))
 refine Zal (caps := []) (ρ' := [(0, _), (3, _)]) [1000, 1001] [] trivial rfl rfl rfl Tryd.c59 rfl rfl ⟨rfl, rfl, trivial⟩ rfl rfl rfl (FnO.mono (wAttr_fn b b4 c4 (l ++ eN k ++ eT t ++ eT d ++ eT ti) a _ _ u o5 (by simp only [List.length_append]; omega) ht s1 s2) ?_)
 rintro v u1 l1 hle1 ⟨rfl, rfl, b5, c5, rfl⟩ -
 refine ⟨⟨fun _ h => h, fun _ h => h, trivial⟩, ?_⟩
 refine Zf (ρ' := [(0, _), (3, _)]) ⟨rfl, rfl, trivial⟩ ?_
 refine Zd (Ze (Zb (ym rfl rfl (Zg (Zi rfl Tryd.f44' rfl (by decide) rfl) rfl (Zg (Zl rfl Tryd.k22 rfl rfl rfl (vs := [_]) rfl rfl rfl) rfl (Zg (Zx rfl rfl Tryd.s22 rfl) rfl (Zt rfl rfl ?_)))))))
 refine Zal (caps := []) (ρ' := [(0, _), (3, _)]) [1000, 1001] [] trivial rfl rfl rfl Tryd.c57 rfl rfl ⟨rfl, rfl, trivial⟩ rfl rfl rfl (FnO.mono (wNumber_fn b (selfQ b) (.inr rfl) b5 c5 (l ++ eN k ++ eT t ++ eT d ++ eT ti ++ eA a) args.length ⟨by omega, by omega⟩ (by simp only [List.length_append]; omega) u ht) ?_)
 rintro v u1 l1 hle1 ⟨rfl, rfl, b6, c6, rfl⟩ -
 refine ⟨⟨fun _ h => h, fun _ h => h, trivial⟩, ?_⟩
 obtain ⟨l1, hl1⟩ : ∃ l1, l1 = l ++ eN k ++ eT t ++ eT d ++ eT ti ++ eA a ++ eN args.length := ⟨_, rfl⟩
 have hl1n := congrArg List.length hl1
 simp only [List.length_append] at hl1n
 rw [← hl1]
 refine Zf (ρ' := [(0, _), (3, _)]) ⟨rfl, rfl, trivial⟩ ?_
 refine Zd (Ze (Ze (Zb (Zg (Zi rfl Tryd.f44' rfl (by decide) rfl) rfl (Zg (Zl rfl Tryd.k22 rfl rfl rfl (vs := [_]) rfl rfl rfl) rfl (Zg (Zx rfl rfl Tryd.s22 rfl) rfl (ym rfl rfl (Zf (ρ' := [(0, _), (3, _), (34, _), (35, _), (36, _)]) ⟨rfl, rfl, rfl, rfl, rfl, trivial⟩ ?_))))))))
 refine Zd (Zq ?_)
 refine Zaq (fun m_0 ρ σ u' => ∃ i : Nat, i + m_0 = args.length ∧ VLe u u' ∧ ∃ (ac : Option Addr) (cc : Nat), σ = [(3, (none, .box [.int .i64 k, str t, str d, str ti, str a.id, .slice ac1 a.classes.length cc1, .slice ac2 a.pairs.length cc2, .slice ac3 args.length cc3, .slice ac4 cites.length cc4, .slice ac5 kids.length cc5])), (1000, (some b, .bt 85 [.pointer (selfQ b), .slice ac (l1 ++ (args.take i).flatMap eT).length cc])), (1001, (none, .rwv (.slice ac (l1 ++ (args.take i).flatMap eT).length cc) 5 1 (l1 ++ (args.take i).flatMap eT).length (bytesC (l1 ++ (args.take i).flatMap eT))))] ∧ ρ = [(0, .p 1000 0), (3, .p 3 0), (34, .v (.slice ac3 args.length cc3)), (35, .v (.int .i64 args.length)), (36, .v (.int .i64 i))] ∧ (u = u')) (args.length) ?_ ?_
 ·
  refine ⟨[(0, _), (3, _), (34, _), (35, _), (36, _)], [(3, _), (1000, _), (1001, _)], ⟨rfl, rfl, rfl, rfl, rfl, trivial⟩, ⟨rfl, rfl, rfl, trivial⟩, 0, by omega, VLe.refl _, b6, c6, (by simp), rfl, ?_⟩
  rfl
 ·
  rintro m ρ σ u' ⟨i, hi8, hle8, ac, cc, rfl, rfl, rfl⟩
  refine Ze (Zb (Zg (Zav rfl rfl rfl) rfl (Zf (ρ' := [(0, _), (3, _), (34, _), (35, _), (36, _), (37, _)]) ⟨rfl, rfl, rfl, rfl, rfl, rfl, trivial⟩ ?_)))
  refine Zd (Ze ?_)
  refine Zw rfl (fun hb8 => ?_) (fun hb8 => ?_)
  ·
   have h8 := of_decide_eq_true hb8
   obtain ⟨s, hs⟩ : ∃ s, args[i]? = some s := ⟨_, List.getElem?_eq_getElem (by omega)⟩
   have hcut := strsC_cut hs
   have hsn := flat_snoc eT hs
   have hle := flat_le eT args (i + 1)
   rw [hsn, List.length_append] at hle
   have hsl := o6.2 s (List.mem_of_getElem? hs)
   refine Zv (Zd (Ze (Zq (Ze (Zb (Zg (Zs rfl Tryd.s22 rfl rfl h3 rfl (by omega)) rfl (Zg (Zr rfl Tryd.k9 rfl h3 (by omega) hcut (vs := [_]) rfl rfl rfl rfl) rfl ?_)))))))
   refine ya rfl rfl (Zf (ρ' := [(0, _), (3, _), (5, _), (34, _), (35, _), (36, _)]) ⟨rfl, rfl, rfl, rfl, rfl, rfl, trivial⟩ ?_)
   refine Zd (Zb (ym rfl rfl (ym rfl rfl (Zt rfl rfl ?_))))
   refine Zal (caps := []) (ρ' := [(0, _), (3, _), (34, _), (35, _), (36, _)]) [1000, 1001] [] trivial rfl rfl rfl Tryd.c58 rfl rfl ⟨rfl, rfl, rfl, rfl, rfl, trivial⟩ rfl rfl rfl (FnO.mono (wText_fn b (selfQ b) (.inr rfl) ac cc (l1 ++ (args.take i).flatMap eT) s (by simp only [List.length_append]; omega) u ht) ?_)
   rintro v u1 l1 hle1 ⟨rfl, rfl, b7, c7, rfl⟩ -
   refine ⟨⟨fun _ h => h, fun _ h => h, trivial⟩, ?_⟩
   refine Zf (ρ' := [(0, _), (3, _), (34, _), (35, _), (36, _)]) ⟨rfl, rfl, rfl, rfl, rfl, trivial⟩ ?_
   refine Zah (Zd (Zb (Zg (Zap rfl rfl rfl (Zk (by omega))) rfl ?_)))
   refine ym rfl rfl (Zf (ρ' := [(0, _), (3, _), (34, _), (35, _), (36, _)]) ⟨rfl, rfl, rfl, rfl, rfl, trivial⟩ ?_)
   refine Zab ?_
   refine ⟨m - 1, [(0, _), (3, _), (34, _), (35, _), (36, _)], [(3, _), (1000, _), (1001, _)], by omega, ⟨rfl, rfl, rfl, rfl, rfl, trivial⟩, ⟨rfl, rfl, rfl, trivial⟩, i + 1, by omega, hle8, b7, c7, (by rw [hsn, ← List.append_assoc]), (by first | rfl | simp), ?_⟩
   rfl
  ·
   have h8 := of_decide_eq_false hb8
   rw [List.take_of_length_le (by omega)]
   refine Zan ?_
   refine Zh (Zh ?_)
   refine Zu ?_
   refine Zd (Ze (Zb (ym rfl rfl (Zg (Zi rfl Tryd.f44' rfl (by decide) rfl) rfl (Zg (Zl rfl Tryd.k42 rfl rfl rfl (vs := [_]) rfl rfl rfl) rfl (Zg (Zx rfl rfl Tryd.s42 rfl) rfl (Zt rfl rfl ?_)))))))
   refine Zal (caps := []) (ρ' := [(0, _), (3, _)]) [1000, 1001] [] trivial rfl rfl rfl Tryd.c57 rfl rfl ⟨rfl, rfl, trivial⟩ rfl rfl rfl (FnO.mono (wNumber_fn b (selfQ b) (.inr rfl) ac cc (l1 ++ args.flatMap eT) cites.length ⟨by omega, by omega⟩ (by simp only [List.length_append]; omega) u ht) ?_)
   rintro v u1 l1 hle1 ⟨rfl, rfl, b8, c8, rfl⟩ -
   refine ⟨⟨fun _ h => h, fun _ h => h, trivial⟩, ?_⟩
   obtain ⟨l2, hl2⟩ : ∃ l2, l2 = l1 ++ args.flatMap eT ++ eN cites.length := ⟨_, rfl⟩
   have hl2n := congrArg List.length hl2
   simp only [List.length_append] at hl2n
   rw [← hl2]
   refine Zf (ρ' := [(0, _), (3, _)]) ⟨rfl, rfl, trivial⟩ ?_
   refine Zd (Ze (Ze (Zb (Zg (Zi rfl Tryd.f44' rfl (by decide) rfl) rfl (Zg (Zl rfl Tryd.k42 rfl rfl rfl (vs := [_]) rfl rfl rfl) rfl (Zg (Zx rfl rfl Tryd.s42 rfl) rfl (ym rfl rfl (Zf (ρ' := [(0, _), (3, _), (50, _), (51, _), (52, _)]) ⟨rfl, rfl, rfl, rfl, rfl, trivial⟩ ?_))))))))
   refine Zd (Zq ?_)
   refine Zaq (fun m_0 ρ σ u' => ∃ j : Nat, j + m_0 = cites.length ∧ VLe u u' ∧ ∃ (ae : Option Addr) (ce : Nat), σ = [(3, (none, .box [.int .i64 k, str t, str d, str ti, str a.id, .slice ac1 a.classes.length cc1, .slice ac2 a.pairs.length cc2, .slice ac3 args.length cc3, .slice ac4 cites.length cc4, .slice ac5 kids.length cc5])), (1000, (some b, .bt 85 [.pointer (selfQ b), .slice ae (l2 ++ (cites.take j).flatMap eC).length ce])), (1001, (none, .rwv (.slice ae (l2 ++ (cites.take j).flatMap eC).length ce) 5 1 (l2 ++ (cites.take j).flatMap eC).length (bytesC (l2 ++ (cites.take j).flatMap eC))))] ∧ ρ = [(0, .p 1000 0), (3, .p 3 0), (50, .v (.slice ac4 cites.length cc4)), (51, .v (.int .i64 cites.length)), (52, .v (.int .i64 j))] ∧ (u = u')) (cites.length) ?_ ?_
   ·
    refine ⟨[(0, _), (3, _), (50, _), (51, _), (52, _)], [(3, _), (1000, _), (1001, _)], ⟨rfl, rfl, rfl, rfl, rfl, trivial⟩, ⟨rfl, rfl, rfl, trivial⟩, 0, by omega, VLe.refl _, b8, c8, (by simp), rfl, ?_⟩
    rfl
   ·
    rintro mj ρ σ u' ⟨j, hi14, hle14, ae, ce, rfl, rfl, rfl⟩
    refine Ze (Zb (Zg (Zav rfl rfl rfl) rfl (Zf (ρ' := [(0, _), (3, _), (50, _), (51, _), (52, _), (53, _)]) ⟨rfl, rfl, rfl, rfl, rfl, rfl, trivial⟩ ?_)))
    refine Zd (Ze ?_)
    refine Zw rfl (fun hb14 => ?_) (fun hb14 => ?_)
    ·
     have h14 := of_decide_eq_true hb14
     obtain ⟨⟨ck, cp, cu, cb⟩, hc⟩ : ∃ c, cites[j]? = some c := ⟨_, List.getElem?_eq_getElem (by omega)⟩
     have hcut : cut (citesC cites) (j * 4) 4 = [str ck, str cp, str cu, .bool cb] := cut_citesC hc
     have hsn := flat_snoc eC hc
     have hle := flat_le eC cites (j + 1)
     rw [hsn, List.length_append] at hle
     obtain ⟨l3, hl3⟩ : ∃ l3, l3 = l2 ++ (cites.take j).flatMap eC := ⟨_, rfl⟩
     have hl3n := congrArg List.length hl3
     simp only [List.length_append] at hl3n
     have hec : (eC ⟨ck, cp, cu, cb⟩).length = (eT ck).length + (eT cp).length + (eT cu).length + (eN (if cb = true then 1 else 0)).length := by simp only [eC, List.length_append]
     rw [← hl3]
     refine Zv (Zd (Ze (Zq (Ze (Zb (Zg (Zs rfl Tryd.s42 rfl rfl h4 rfl (by omega)) rfl (Zg (Zr rfl Tryd.k106 rfl h4 (by omega) hcut (vs := [_, _, _, _]) rfl rfl rfl rfl) rfl (Zt rfl rfl ?_))))))))
     refine Zau trivial Tryd.z106 rfl rfl rfl ?_
     refine Zt rfl rfl ?_
     refine Zao trivial rfl Tryd.k106 rfl rfl rfl (vs := [_, _, _, _]) rfl rfl (by first | rfl | assumption | simp [Value.oneCell', str]) (Nat.le_of_ble_eq_true rfl) rfl ?_
     refine Zf (ρ' := [(0, _), (3, _), (7, _), (50, _), (51, _), (52, _)]) ⟨rfl, rfl, rfl, rfl, rfl, rfl, trivial⟩ ?_
     refine Zd (Ze (Zb (ym rfl rfl (Zg (Zi rfl Tryd.f106' rfl (by decide) rfl) rfl (Zg (Zl rfl Tryd.k9 rfl rfl rfl (vs := [_]) rfl rfl rfl) rfl (Zt rfl rfl ?_))))))
     refine Zal (caps := []) (ρ' := [(0, _), (3, _), (7, _), (50, _), (51, _), (52, _)]) [1000, 1001] [] trivial rfl rfl rfl Tryd.c58 rfl rfl ⟨rfl, rfl, rfl, rfl, rfl, rfl, trivial⟩ rfl rfl rfl (FnO.mono (wText_fn b (selfQ b) (.inr rfl) ae ce l3 ck (by omega) u ht) ?_)
     rintro v u1 l1 hle1 ⟨rfl, rfl, d1, e1, rfl⟩ -
     refine ⟨⟨fun _ h => h, fun _ h => h, trivial⟩, ?_⟩
     refine Zf (ρ' := [(0, _), (3, _), (7, _), (50, _), (51, _), (52, _)]) ⟨rfl, rfl, rfl, rfl, rfl, rfl, trivial⟩ ?_
     refine Zd (Ze (Zb (ym rfl rfl (Zg (Zi rfl Tryd.f106' rfl (by decide) rfl) rfl (Zg (Zl rfl Tryd.k9 rfl rfl rfl (vs := [_]) rfl rfl rfl) rfl (Zt rfl rfl ?_))))))
     refine Zal (caps := []) (ρ' := [(0, _), (3, _), (7, _), (50, _), (51, _), (52, _)]) [1000, 1001] [] trivial rfl rfl rfl Tryd.c58 rfl rfl ⟨rfl, rfl, rfl, rfl, rfl, rfl, trivial⟩ rfl rfl rfl (FnO.mono (wText_fn b (selfQ b) (.inr rfl) d1 e1 (l3 ++ eT ck) cp (by simp only [List.length_append]; omega) u ht) ?_)
     rintro v u1 l1 hle1 ⟨rfl, rfl, d2, e2, rfl⟩ -
     refine ⟨⟨fun _ h => h, fun _ h => h, trivial⟩, ?_⟩
     refine Zf (ρ' := [(0, _), (3, _), (7, _), (50, _), (51, _), (52, _)]) ⟨rfl, rfl, rfl, rfl, rfl, rfl, trivial⟩ ?_
     refine Zd (Ze (Zb (ym rfl rfl (Zg (Zi rfl Tryd.f106' rfl (by decide) rfl) rfl (Zg (Zl rfl Tryd.k9 rfl rfl rfl (vs := [_]) rfl rfl rfl) rfl (Zt rfl rfl ?_))))))
     refine Zal (caps := []) (ρ' := [(0, _), (3, _), (7, _), (50, _), (51, _), (52, _)]) [1000, 1001] [] trivial rfl rfl rfl Tryd.c58 rfl rfl ⟨rfl, rfl, rfl, rfl, rfl, rfl, trivial⟩ rfl rfl rfl (FnO.mono (wText_fn b (selfQ b) (.inr rfl) d2 e2 (l3 ++ eT ck ++ eT cp) cu (by simp only [List.length_append]; omega) u ht) ?_)
     rintro v u1 l1 hle1 ⟨rfl, rfl, d3, e3, rfl⟩ -
     refine ⟨⟨fun _ h => h, fun _ h => h, trivial⟩, ?_⟩
     refine Zf (ρ' := [(0, _), (3, _), (7, _), (50, _), (51, _), (52, _)]) ⟨rfl, rfl, rfl, rfl, rfl, rfl, trivial⟩ ?_
     refine Zd (Ze (Zb (Zg (Zi rfl Tryd.f106' rfl (by decide) rfl) rfl (Zg (Zl rfl Tryd.k4 rfl rfl rfl (vs := [_]) rfl rfl rfl) rfl (Zf (ρ' := [(0, _), (3, _), (50, _), (51, _), (52, _), (69, _)]) ⟨rfl, rfl, rfl, rfl, rfl, rfl, trivial⟩ ?_)))))
     refine Zd ?_
     refine Zw rfl (fun hb19 => ?_) (fun hb19 => ?_)
     ·
      have hcb : (if cb = true then (1 : Int) else 0) = 1 := if_pos hb19
      rw [hcb] at hec
      have hfin : l3 ++ eT ck ++ eT cp ++ eT cu ++ eN 1 = l3 ++ eC ⟨ck, cp, cu, cb⟩ := by simp only [eC, hcb, List.append_assoc]
      refine Zb (ym rfl rfl (Zt rfl rfl ?_))
      refine Zal (caps := []) (ρ' := [(0, _), (3, _), (50, _), (51, _), (52, _)]) [1000, 1001] [] trivial rfl rfl rfl Tryd.c57 rfl rfl ⟨rfl, rfl, rfl, rfl, rfl, trivial⟩ rfl rfl rfl (FnO.mono (wNumber_fn b (selfQ b) (.inr rfl) d3 e3 (l3 ++ eT ck ++ eT cp ++ eT cu) 1 ⟨by omega, by omega⟩ (by simp only [List.length_append]; omega) u ht) ?_)
      rintro v u1 l1 hle1 ⟨rfl, rfl, d4, e4, rfl⟩ -
      refine ⟨⟨fun _ h => h, fun _ h => h, trivial⟩, ?_⟩
      refine Zf (ρ' := [(0, _), (3, _), (50, _), (51, _), (52, _)]) ⟨rfl, rfl, rfl, rfl, rfl, trivial⟩ ?_
      refine Zah (Zd (Zb (Zg (Zap rfl rfl rfl (Zk (by omega))) rfl ?_)))
      refine ym rfl rfl (Zf (ρ' := [(0, _), (3, _), (50, _), (51, _), (52, _)]) ⟨rfl, rfl, rfl, rfl, rfl, trivial⟩ ?_)
      refine Zab ?_
      refine ⟨mj - 1, [(0, _), (3, _), (50, _), (51, _), (52, _)], [(3, _), (1000, _), (1001, _)], by omega, ⟨rfl, rfl, rfl, rfl, rfl, trivial⟩, ⟨rfl, rfl, rfl, trivial⟩, j + 1, by omega, hle14, d4, e4, (by rw [hsn, ← List.append_assoc, ← hl3, ← hfin]), (by first | rfl | simp), ?_⟩
      rfl
     ·
      have hcb : (if cb = true then (1 : Int) else 0) = 0 := if_neg (by rw [hb19]; decide)
      rw [hcb] at hec
      have hfin : l3 ++ eT ck ++ eT cp ++ eT cu ++ eN 0 = l3 ++ eC ⟨ck, cp, cu, cb⟩ := by simp only [eC, hcb, List.append_assoc]
      refine Zb (ym rfl rfl (Zt rfl rfl ?_))
      refine Zal (caps := []) (ρ' := [(0, _), (3, _), (50, _), (51, _), (52, _)]) [1000, 1001] [] trivial rfl rfl rfl Tryd.c57 rfl rfl ⟨rfl, rfl, rfl, rfl, rfl, trivial⟩ rfl rfl rfl (FnO.mono (wNumber_fn b (selfQ b) (.inr rfl) d3 e3 (l3 ++ eT ck ++ eT cp ++ eT cu) 0 ⟨by omega, by omega⟩ (by simp only [List.length_append]; omega) u ht) ?_)
      rintro v u1 l1 hle1 ⟨rfl, rfl, d4, e4, rfl⟩ -
      refine ⟨⟨fun _ h => h, fun _ h => h, trivial⟩, ?_⟩
      refine Zf (ρ' := [(0, _), (3, _), (50, _), (51, _), (52, _)]) ⟨rfl, rfl, rfl, rfl, rfl, trivial⟩ ?_
      refine Zah (Zd (Zb (Zg (Zap rfl rfl rfl (Zk (by omega))) rfl ?_)))
      refine ym rfl rfl (Zf (ρ' := [(0, _), (3, _), (50, _), (51, _), (52, _)]) ⟨rfl, rfl, rfl, rfl, rfl, trivial⟩ ?_)
      refine Zab ?_
      refine ⟨mj - 1, [(0, _), (3, _), (50, _), (51, _), (52, _)], [(3, _), (1000, _), (1001, _)], by omega, ⟨rfl, rfl, rfl, rfl, rfl, trivial⟩, ⟨rfl, rfl, rfl, trivial⟩, j + 1, by omega, hle14, d4, e4, (by rw [hsn, ← List.append_assoc, ← hl3, ← hfin]), (by first | rfl | simp), ?_⟩
      rfl
    ·
     have h14 := of_decide_eq_false hb14
     rw [List.take_of_length_le (by omega)]
     refine Zan ?_
     refine Zh (Zh ?_)
     refine Zu ?_
     refine Zd (Zb (ym rfl rfl (Zg (Zi rfl Tryd.f44' rfl (by decide) rfl) rfl (Zg (Zl rfl Tryd.k35 rfl rfl rfl (vs := [_]) rfl rfl rfl) rfl (Zt rfl rfl ?_)))))
     refine Zal (caps := []) (ρ' := []) [1000, 1001] [] trivial rfl rfl rfl Tryd.c60 rfl rfl trivial rfl rfl rfl (FnO.mono (hkids b ae ce (l2 ++ cites.flatMap eC) _ u o8 (by simp only [List.length_append]; omega) ht s5) ?_)
     rintro v u1 l1 hle1 ⟨rfl, rfl, b9, c9, rfl⟩ -
     refine ⟨⟨fun _ h => h, fun _ h => h, trivial⟩, ?_⟩
     refine Zf (ρ' := []) trivial ?_
     refine finO0n [1000, 1001]  rfl rfl ?_
     exact ⟨rfl, rfl, b9, c9, by rw [hl2, hl1]; simp only [eI, eLs, eL, List.append_assoc]⟩
set_option maxHeartbeats 4000000 in
theorem wLine_fn (xs : List Inl) (hxs : ∀ x ∈ xs, InlP x) : LineP xs := by
 intro b ad cap l v u hxl hl ht ha
 obtain ⟨cs, ⟨aA, cA, rfl, h1⟩, hc1⟩ := ha
 have hll : (eL xs).length = (eN xs.length).length + (xs.flatMap eI).length := by simp [eL, eIs_flat]
 refine FnO.intro [] Tryd.func60 rfl rfl rfl ?_
 intro w0 D hw0
 refine wc_pin 0 1000 _ 0 rfl rfl ?_
 refine Ze (Zb (ym rfl rfl (ym rfl rfl (Zg (Zx rfl rfl Tryd.s35 rfl) rfl (Zt rfl rfl ?_)))))
 refine Zal (caps := []) (ρ' := [(0, _), (1, _)]) [1000, 1001] [] trivial rfl rfl rfl Tryd.c57 rfl rfl ⟨rfl, rfl, trivial⟩ rfl rfl rfl (FnO.mono (wNumber_fn b (selfQ b) (.inr rfl) ad cap l xs.length ⟨by omega, by omega⟩ (by omega) u ht) ?_)
 rintro v u1 l1 hle1 ⟨rfl, rfl, b1, c1, rfl⟩ -
 refine ⟨⟨fun _ h => h, fun _ h => h, trivial⟩, ?_⟩
 obtain ⟨l1, hl1⟩ : ∃ l1, l1 = l ++ eN xs.length := ⟨_, rfl⟩
 have hl1n := congrArg List.length hl1
 simp only [List.length_append] at hl1n
 rw [← hl1]
 refine Zf (ρ' := [(0, _), (1, _)]) ⟨rfl, rfl, trivial⟩ ?_
 refine Zd (Ze (Zb (ym rfl rfl (Zg (Zx rfl rfl Tryd.s35 rfl) rfl (ym rfl rfl (Zf (ρ' := [(0, _), (10, _), (11, _), (12, _)]) ⟨rfl, rfl, rfl, rfl, trivial⟩ ?_))))))
 refine Zd (Zq ?_)
 refine Zaq (fun m_0 ρ σ u' => ∃ i : Nat, i + m_0 = xs.length ∧ VLe u u' ∧ ∃ (ac : Option Addr) (cc : Nat), σ = [(1000, (some b, .bt 85 [.pointer (selfQ b), .slice ac (l1 ++ (xs.take i).flatMap eI).length cc])), (1001, (none, .rwv (.slice ac (l1 ++ (xs.take i).flatMap eI).length cc) 5 1 (l1 ++ (xs.take i).flatMap eI).length (bytesC (l1 ++ (xs.take i).flatMap eI))))] ∧ ρ = [(0, .p 1000 0), (10, .v (.slice aA xs.length cA)), (11, .v (.int .i64 xs.length)), (12, .v (.int .i64 i))] ∧ (u = u')) (xs.length) ?_ ?_
 ·
  refine ⟨[(0, _), (10, _), (11, _), (12, _)], [(1000, _), (1001, _)], ⟨rfl, rfl, rfl, rfl, trivial⟩, ⟨rfl, rfl, trivial⟩, 0, by omega, VLe.refl _, b1, c1, (by simp), rfl, ?_⟩
  rfl
 ·
  rintro m ρ σ u' ⟨i, hi2, hle2, ac, cc, rfl, rfl, rfl⟩
  refine Ze (Zb (Zg (Zav rfl rfl rfl) rfl (Zf (ρ' := [(0, _), (10, _), (11, _), (12, _), (13, _)]) ⟨rfl, rfl, rfl, rfl, rfl, trivial⟩ ?_)))
  refine Zd (Ze ?_)
  refine Zw rfl (fun hb2 => ?_) (fun hb2 => ?_)
  ·
   have h2 := of_decide_eq_true hb2
   obtain ⟨x, hx⟩ : ∃ x, xs[i]? = some x := ⟨_, List.getElem?_eq_getElem (by omega)⟩
   have hC := hc1.get i x hx
   obtain ⟨k, t, d, ti, a, args, cites, kids⟩ := x
   obtain ⟨vc, vp, va, vt, vk, hcut, -⟩ := hC.cells
   have hC2 := hC
   rw [hcut] at hC2
   have oneAll := hC2.one
   have hsn := flat_snoc eI hx
   have hle := flat_le eI xs (i + 1)
   rw [hsn, List.length_append] at hle
   have hxi := hxs _ (List.mem_of_getElem? hx)
   refine Zv (Zd (Ze (Zq (Ze (Zb (Zg (Zs rfl Tryd.s35 rfl rfl h1 rfl (by omega)) rfl (Zg (Zr rfl Tryd.k44 rfl h1 (by omega) hcut (vs := [_, _, _, _, _, _, _, _, _, _]) rfl rfl rfl rfl) rfl (Zt rfl rfl ?_))))))))
   refine Zau trivial Tryd.z44 rfl rfl rfl ?_
   refine Zt rfl rfl ?_
   refine Zao trivial rfl Tryd.k44 rfl rfl rfl (vs := [_, _, _, _, _, _, _, _, _, _]) rfl rfl (by first | rfl | assumption | simp [Value.oneCell', str]) (Nat.le_of_ble_eq_true rfl) rfl ?_
   refine Zf (ρ' := [(0, _), (5, _), (10, _), (11, _), (12, _)]) ⟨rfl, rfl, rfl, rfl, rfl, trivial⟩ ?_
   refine Zd (Zb (ym rfl rfl (Zg (Zl rfl Tryd.k44 rfl rfl rfl (vs := [_, _, _, _, _, _, _, _, _, _]) rfl rfl rfl) rfl (Zt rfl rfl ?_))))
   refine Zal (caps := []) (ρ' := [(0, _), (10, _), (11, _), (12, _)]) [1000, 1001] [] trivial rfl rfl rfl Tryd.c48 rfl rfl ⟨rfl, rfl, rfl, rfl, trivial⟩ rfl rfl rfl (FnO.mono (hxi b (selfQ b) (.inr rfl) ac cc (l1 ++ (xs.take i).flatMap eI) _ u (by simp only [List.length_append]; omega) ht hC2) ?_)
   rintro v u1 l1 hle1 ⟨rfl, rfl, b3, c3, rfl⟩ -
   refine ⟨⟨fun _ h => h, fun _ h => h, trivial⟩, ?_⟩
   refine Zf (ρ' := [(0, _), (10, _), (11, _), (12, _)]) ⟨rfl, rfl, rfl, rfl, trivial⟩ ?_
   refine Zah (Zd (Zb (Zg (Zap rfl rfl rfl (Zk (by omega))) rfl ?_)))
   refine ym rfl rfl (Zf (ρ' := [(0, _), (10, _), (11, _), (12, _)]) ⟨rfl, rfl, rfl, rfl, trivial⟩ ?_)
   refine Zab ?_
   refine ⟨m - 1, [(0, _), (10, _), (11, _), (12, _)], [(1000, _), (1001, _)], by omega, ⟨rfl, rfl, rfl, rfl, trivial⟩, ⟨rfl, rfl, trivial⟩, i + 1, by omega, hle2, b3, c3, (by rw [hsn, ← List.append_assoc]), (by first | rfl | simp), ?_⟩
   rfl
  ·
   have h2 := of_decide_eq_false hb2
   rw [List.take_of_length_le (by omega)]
   refine Zan ?_
   refine Zh (Zh ?_)
   refine Zu ?_
   refine finO0n [1000, 1001]  rfl rfl ?_
   exact ⟨rfl, rfl, ac, cc, by rw [hl1, eL, eIs_flat, List.append_assoc]⟩
mutual
theorem inlP : ∀ x, InlP x
 | .mk k t d ti a args cites kids => wInline_fn k t d ti a args cites kids (wLine_fn kids (inlsP kids))
theorem inlsP : ∀ xs : List Inl, ∀ x ∈ xs, InlP x
 | [], x, h => by cases h
 | y :: ys, x, h => by
  rcases List.mem_cons.1 h with e | h
  ·
   rw [e]; exact inlP y
  ·
   exact inlsP ys x h
end
theorem lineP (xs : List Inl) : LineP xs := wLine_fn xs (inlsP xs)
set_option maxHeartbeats 4000000 in
theorem wBlock_fn (k lv : Int) (inf t d ti : Bs) (a : DAttr) (line : List Inl) (kids : List Blk) (hkids : ∀ x ∈ kids, BlkP x) : BlkP (.mk k lv inf t d ti a line kids) := by
 intro b q hq ad cap l cs u hl ht hcs
 obtain ⟨vc, vp, vl, vk, rfl, s1, s2, s3, ⟨ks, ⟨ac4, cc4, rfl, h4⟩, hK⟩, hk, hlv, o2, o3, o4, o5, o6, o7, o8⟩ := hcs.cells
 have s1b := s1
 have s2b := s2
 obtain ⟨ac1, cc1, rfl, -⟩ := s1b
 obtain ⟨ac2, cc2, rfl, -⟩ := s2b
 have s3b := s3
 obtain ⟨ls, ⟨ac3, cc3, rfl, -⟩, -⟩ := s3b
 simp only [eB, eBs_flat, List.length_append] at hl
 refine FnO.intro [] Tryd.func44 rfl rfl rfl ?_
 intro w0 D hw0
 refine wc_pin 0 1000 _ 0 rfl rfl ?_
 refine Ze (Zb (Zt rfl rfl ?_))
 refine do_box trivial rfl (cs := [_, _, _, _, _, _, _, _, _, _, _]) rfl rfl rfl rfl ?_
 refine Zf (ρ' := [(0, _), (3, _)]) ⟨rfl, rfl, trivial⟩ ?_
 refine Zd (Ze (Zb (ym rfl rfl (Zg (Zi rfl Tryd.f39' rfl (by decide) rfl) rfl (Zg (Zl rfl Tryd.k3 rfl rfl rfl (vs := [_]) rfl rfl rfl) rfl (Zt rfl rfl ?_))))))
 refine Zal (caps := []) (ρ' := [(0, _), (3, _)]) [1000, 1001] [] trivial rfl rfl rfl Tryd.c57 rfl rfl ⟨rfl, rfl, trivial⟩ rfl rfl rfl (FnO.mono (wNumber_fn b q hq ad cap l k hk (by omega) u ht) ?_)
 rintro v u1 l1 hle1 ⟨rfl, rfl, b1, c1, rfl⟩ -
 refine ⟨⟨fun _ h => h, fun _ h => h, trivial⟩, ?_⟩
 refine Zf (ρ' := [(0, _), (3, _)]) ⟨rfl, rfl, trivial⟩ ?_
 refine Zd (Ze (Zb (ym rfl rfl (Zg (Zi rfl Tryd.f39' rfl (by decide) rfl) rfl (Zg (Zl rfl Tryd.k3 rfl rfl rfl (vs := [_]) rfl rfl rfl) rfl (Zt rfl rfl ?_))))))
 refine Zal (caps := []) (ρ' := [(0, _), (3, _)]) [1000, 1001] [] trivial rfl rfl rfl Tryd.c57 rfl rfl ⟨rfl, rfl, trivial⟩ rfl rfl rfl (FnO.mono (wNumber_fn b (selfQ b) (.inr rfl) b1 c1 (l ++ eN k) lv hlv (by simp only [List.length_append]; omega) u ht) ?_)
 rintro v u1 l1 hle1 ⟨rfl, rfl, b2, c2, rfl⟩ -
 refine ⟨⟨fun _ h => h, fun _ h => h, trivial⟩, ?_⟩
 refine Zf (ρ' := [(0, _), (3, _)]) ⟨rfl, rfl, trivial⟩ ?_
 refine Zd (Ze (Zb (ym rfl rfl (Zg (Zi rfl Tryd.f39' rfl (by decide) rfl) rfl (Zg (Zl rfl Tryd.k9 rfl rfl rfl (vs := [_]) rfl rfl rfl) rfl (Zt rfl rfl ?_))))))
 refine Zal (caps := []) (ρ' := [(0, _), (3, _)]) [1000, 1001] [] trivial rfl rfl rfl Tryd.c58 rfl rfl ⟨rfl, rfl, trivial⟩ rfl rfl rfl (FnO.mono (wText_fn b (selfQ b) (.inr rfl) b2 c2 (l ++ eN k ++ eN lv) inf (by simp only [List.length_append]; omega) u ht) ?_)
 rintro v u1 l1 hle1 ⟨rfl, rfl, b3, c3, rfl⟩ -
 refine ⟨⟨fun _ h => h, fun _ h => h, trivial⟩, ?_⟩
 refine Zf (ρ' := [(0, _), (3, _)]) ⟨rfl, rfl, trivial⟩ ?_
 refine Zd (Ze (Zb (ym rfl rfl (Zg (Zi rfl Tryd.f39' rfl (by decide) rfl) rfl (Zg (Zl rfl Tryd.k9 rfl rfl rfl (vs := [_]) rfl rfl rfl) rfl (Zt rfl rfl ?_))))))
 refine Zal (caps := []) (ρ' := [(0, _), (3, _)]) [1000, 1001] [] trivial rfl rfl rfl Tryd.c58 rfl rfl ⟨rfl, rfl, trivial⟩ rfl rfl rfl (FnO.mono (wText_fn b (selfQ b) (.inr rfl) b3 c3 (l ++ eN k ++ eN lv ++ eT inf) t (by simp only [List.length_append]; omega) u ht) ?_)
 rintro v u1 l1 hle1 ⟨rfl, rfl, b4, c4, rfl⟩ -
 refine ⟨⟨fun _ h => h, fun _ h => h, trivial⟩, ?_⟩
 refine Zf (ρ' := [(0, _), (3, _)]) ⟨rfl, rfl, trivial⟩ ?_
 refine Zd (Ze (Zb (ym rfl rfl (Zg (Zi rfl Tryd.f39' rfl (by decide) rfl) rfl (Zg (Zl rfl Tryd.k9 rfl rfl rfl (vs := [_]) rfl rfl rfl) rfl (Zt rfl rfl ?_))))))
 refine Zal (caps := []) (ρ' := [(0, _), (3, _)]) [1000, 1001] [] trivial rfl rfl rfl Tryd.c58 rfl rfl ⟨rfl, rfl, trivial⟩ rfl rfl rfl (FnO.mono (wText_fn b (selfQ b) (.inr rfl) b4 c4 (l ++ eN k ++ eN lv ++ eT inf ++ eT t) d (by simp only [List.length_append]; omega) u ht) ?_)
 rintro v u1 l1 hle1 ⟨rfl, rfl, b5, c5, rfl⟩ -
 refine ⟨⟨fun _ h => h, fun _ h => h, trivial⟩, ?_⟩
 refine Zf (ρ' := [(0, _), (3, _)]) ⟨rfl, rfl, trivial⟩ ?_
 refine Zd (Ze (Zb (ym rfl rfl (Zg (Zi rfl Tryd.f39' rfl (by decide) rfl) rfl (Zg (Zl rfl Tryd.k9 rfl rfl rfl (vs := [_]) rfl rfl rfl) rfl (Zt rfl rfl ?_))))))
 refine Zal (caps := []) (ρ' := [(0, _), (3, _)]) [1000, 1001] [] trivial rfl rfl rfl Tryd.c58 rfl rfl ⟨rfl, rfl, trivial⟩ rfl rfl rfl (FnO.mono (wText_fn b (selfQ b) (.inr rfl) b5 c5 (l ++ eN k ++ eN lv ++ eT inf ++ eT t ++ eT d) ti (by simp only [List.length_append]; omega) u ht) ?_)
 rintro v u1 l1 hle1 ⟨rfl, rfl, b6, c6, rfl⟩ -
 refine ⟨⟨fun _ h => h, fun _ h => h, trivial⟩, ?_⟩
 refine Zf (ρ' := [(0, _), (3, _)]) ⟨rfl, rfl, trivial⟩ ?_
 refine Zd (Ze (Zb (ym rfl rfl (Zg (Zi rfl Tryd.f39' rfl (by decide) rfl) rfl (Zg (Zl rfl Tryd.k37 rfl rfl rfl (vs := [_, _, _]) rfl rfl rfl) rfl (Zt rfl rfl ?_))))))
 refine Zal (caps := []) (ρ' := [(0, _), (3, _)]) [1000, 1001] [] trivial rfl rfl rfl Tryd.c59 rfl rfl ⟨rfl, rfl, trivial⟩ rfl rfl rfl (FnO.mono (wAttr_fn b b6 c6 (l ++ eN k ++ eN lv ++ eT inf ++ eT t ++ eT d ++ eT ti) a _ _ u o6 (by simp only [List.length_append]; omega) ht s1 s2) ?_)
 rintro v u1 l1 hle1 ⟨rfl, rfl, b7, c7, rfl⟩ -
 refine ⟨⟨fun _ h => h, fun _ h => h, trivial⟩, ?_⟩
 refine Zf (ρ' := [(0, _), (3, _)]) ⟨rfl, rfl, trivial⟩ ?_
 refine Zd (Ze (Zb (ym rfl rfl (Zg (Zi rfl Tryd.f39' rfl (by decide) rfl) rfl (Zg (Zl rfl Tryd.k35 rfl rfl rfl (vs := [_]) rfl rfl rfl) rfl (Zt rfl rfl ?_))))))
 refine Zal (caps := []) (ρ' := [(0, _), (3, _)]) [1000, 1001] [] trivial rfl rfl rfl Tryd.c60 rfl rfl ⟨rfl, rfl, trivial⟩ rfl rfl rfl (FnO.mono (lineP line b b7 c7 (l ++ eN k ++ eN lv ++ eT inf ++ eT t ++ eT d ++ eT ti ++ eA a) _ u o7 (by simp only [List.length_append]; omega) ht s3) ?_)
 rintro v u1 l1 hle1 ⟨rfl, rfl, b8, c8, rfl⟩ -
 refine ⟨⟨fun _ h => h, fun _ h => h, trivial⟩, ?_⟩
 refine Zf (ρ' := [(0, _), (3, _)]) ⟨rfl, rfl, trivial⟩ ?_
 refine Zd (Ze (Zb (ym rfl rfl (Zg (Zi rfl Tryd.f39' rfl (by decide) rfl) rfl (Zg (Zl rfl Tryd.k29 rfl rfl rfl (vs := [_]) rfl rfl rfl) rfl (Zg (Zx rfl rfl Tryd.s29 rfl) rfl (Zt rfl rfl ?_)))))))
 refine Zal (caps := []) (ρ' := [(0, _), (3, _)]) [1000, 1001] [] trivial rfl rfl rfl Tryd.c57 rfl rfl ⟨rfl, rfl, trivial⟩ rfl rfl rfl (FnO.mono (wNumber_fn b (selfQ b) (.inr rfl) b8 c8 (l ++ eN k ++ eN lv ++ eT inf ++ eT t ++ eT d ++ eT ti ++ eA a ++ eL line) kids.length ⟨by omega, by omega⟩ (by simp only [List.length_append]; omega) u ht) ?_)
 rintro v u1 l1 hle1 ⟨rfl, rfl, b9, c9, rfl⟩ -
 refine ⟨⟨fun _ h => h, fun _ h => h, trivial⟩, ?_⟩
 obtain ⟨l1, hl1⟩ : ∃ l1, l1 = l ++ eN k ++ eN lv ++ eT inf ++ eT t ++ eT d ++ eT ti ++ eA a ++ eL line ++ eN kids.length := ⟨_, rfl⟩
 have hl1n := congrArg List.length hl1
 simp only [List.length_append] at hl1n
 rw [← hl1]
 refine Zf (ρ' := [(0, _), (3, _)]) ⟨rfl, rfl, trivial⟩ ?_
 refine Zd (Ze (Zb (Zg (Zi rfl Tryd.f39' rfl (by decide) rfl) rfl (Zg (Zl rfl Tryd.k29 rfl rfl rfl (vs := [_]) rfl rfl rfl) rfl (Zg (Zx rfl rfl Tryd.s29 rfl) rfl (ym rfl rfl (Zf (ρ' := [(0, _), (44, _), (45, _), (46, _)]) ⟨rfl, rfl, rfl, rfl, trivial⟩ ?_)))))))
 refine Zd (Zq ?_)
 refine Zaq (fun m_0 ρ σ u' => ∃ i : Nat, i + m_0 = kids.length ∧ VLe u u' ∧ ∃ (ac : Option Addr) (cc : Nat), σ = [(1000, (some b, .bt 85 [.pointer (selfQ b), .slice ac (l1 ++ (kids.take i).flatMap eB).length cc])), (1001, (none, .rwv (.slice ac (l1 ++ (kids.take i).flatMap eB).length cc) 5 1 (l1 ++ (kids.take i).flatMap eB).length (bytesC (l1 ++ (kids.take i).flatMap eB))))] ∧ ρ = [(0, .p 1000 0), (44, .v (.slice ac4 kids.length cc4)), (45, .v (.int .i64 kids.length)), (46, .v (.int .i64 i))] ∧ (u = u')) (kids.length) ?_ ?_
 ·
  refine ⟨[(0, _), (44, _), (45, _), (46, _)], [(1000, _), (1001, _)], ⟨rfl, rfl, rfl, rfl, trivial⟩, ⟨rfl, rfl, trivial⟩, 0, by omega, VLe.refl _, b9, c9, (by simp), rfl, ?_⟩
  rfl
 ·
  rintro m ρ σ u' ⟨i, hi11, hle11, ac, cc, rfl, rfl, rfl⟩
  refine Ze (Zb (Zg (Zav rfl rfl rfl) rfl (Zf (ρ' := [(0, _), (44, _), (45, _), (46, _), (47, _)]) ⟨rfl, rfl, rfl, rfl, rfl, trivial⟩ ?_)))
  refine Zd (Ze ?_)
  refine Zw rfl (fun hb11 => ?_) (fun hb11 => ?_)
  ·
   have h11 := of_decide_eq_true hb11
   obtain ⟨x, hx⟩ : ∃ x, kids[i]? = some x := ⟨_, List.getElem?_eq_getElem (by omega)⟩
   have hC := hK.get i x hx
   obtain ⟨k2, lv2, inf2, t2, d2, ti2, a2, line2, kids2⟩ := x
   obtain ⟨vc2, vp2, vl2, vk2, hcut, -⟩ := hC.cells
   have hC2 := hC
   rw [hcut] at hC2
   have oneAll := hC2.one
   have hsn := flat_snoc eB hx
   have hle := flat_le eB kids (i + 1)
   rw [hsn, List.length_append] at hle
   have hxi := hkids _ (List.mem_of_getElem? hx)
   refine Zv (Zd (Ze (Zq (Ze (Zb (Zg (Zs rfl Tryd.s29 rfl rfl h4 rfl (by omega)) rfl (Zg (Zr rfl Tryd.k39 rfl h4 (by omega) hcut (vs := [_, _, _, _, _, _, _, _, _, _, _]) rfl rfl rfl rfl) rfl (Zt rfl rfl ?_))))))))
   refine Zau trivial Tryd.z39 rfl rfl rfl ?_
   refine Zt rfl rfl ?_
   refine Zao trivial rfl Tryd.k39 rfl rfl rfl (vs := [_, _, _, _, _, _, _, _, _, _, _]) rfl rfl (by first | rfl | assumption | simp [Value.oneCell', str]) (Nat.le_of_ble_eq_true rfl) rfl ?_
   refine Zf (ρ' := [(0, _), (5, _), (44, _), (45, _), (46, _)]) ⟨rfl, rfl, rfl, rfl, rfl, trivial⟩ ?_
   refine Zd (Zb (ym rfl rfl (Zg (Zl rfl Tryd.k39 rfl rfl rfl (vs := [_, _, _, _, _, _, _, _, _, _, _]) rfl rfl rfl) rfl (Zt rfl rfl ?_))))
   refine Zal (caps := []) (ρ' := [(0, _), (44, _), (45, _), (46, _)]) [1000, 1001] [] trivial rfl rfl rfl Tryd.c44 rfl rfl ⟨rfl, rfl, rfl, rfl, trivial⟩ rfl rfl rfl (FnO.mono (hxi b (selfQ b) (.inr rfl) ac cc (l1 ++ (kids.take i).flatMap eB) _ u (by simp only [List.length_append]; omega) ht hC2) ?_)
   rintro v u1 l1 hle1 ⟨rfl, rfl, d3, e3, rfl⟩ -
   refine ⟨⟨fun _ h => h, fun _ h => h, trivial⟩, ?_⟩
   refine Zf (ρ' := [(0, _), (44, _), (45, _), (46, _)]) ⟨rfl, rfl, rfl, rfl, trivial⟩ ?_
   refine Zah (Zd (Zb (Zg (Zap rfl rfl rfl (Zk (by omega))) rfl ?_)))
   refine ym rfl rfl (Zf (ρ' := [(0, _), (44, _), (45, _), (46, _)]) ⟨rfl, rfl, rfl, rfl, trivial⟩ ?_)
   refine Zab ?_
   refine ⟨m - 1, [(0, _), (44, _), (45, _), (46, _)], [(1000, _), (1001, _)], by omega, ⟨rfl, rfl, rfl, rfl, trivial⟩, ⟨rfl, rfl, trivial⟩, i + 1, by omega, hle11, d3, e3, (by rw [hsn, ← List.append_assoc]), (by first | rfl | simp), ?_⟩
   rfl
  ·
   have h11 := of_decide_eq_false hb11
   rw [List.take_of_length_le (by omega)]
   refine Zan ?_
   refine Zh (Zh ?_)
   refine Zu ?_
   refine finO0n [1000, 1001]  rfl rfl ?_
   exact ⟨rfl, rfl, ac, cc, by rw [hl1]; simp only [eB, eBs_flat, List.append_assoc]⟩
mutual
theorem blkP : ∀ x, BlkP x
 | .mk k lv inf t d ti a line kids => wBlock_fn k lv inf t d ti a line kids (blksP kids)
theorem blksP : ∀ xs : List Blk, ∀ x ∈ xs, BlkP x
 | [], x, h => by cases h
 | y :: ys, x, h => by
  rcases List.mem_cons.1 h with e | h
  ·
   rw [e]; exact blkP y
  ·
   exact blksP ys x h
end
set_option linter.unusedSimpArgs false
set_option linter.unusedVariables false
set_option maxRecDepth 4000
set_option maxHeartbeats 2000000 in
theorem key_fn (x : Inl) (cs : List Value) (u : View) (hl : (eI x).length ≤ 10000000000) (ht : TabU u) (hcs : InlC u x cs) :
  FnP Tryd.prog 35 [.agg cs.toArray] u fun r u' => r = str (eI x) ∧ u = u' := by
 have hcs2 := hcs
 obtain ⟨k, t, d, ti, a, args, cites, kids⟩ := x
 obtain ⟨vc, vp, va, vt, vk, rfl, ⟨ac1, cc1, rfl, -⟩, ⟨ac2, cc2, rfl, -⟩, ⟨ac3, cc3, rfl, -⟩, ⟨ac4, cc4, rfl, -⟩, ⟨ks, ⟨ac5, cc5, rfl, -⟩, -⟩, -⟩ := hcs2.cells
 refine FnP.intro [.tmp 2] Tryd.func35 rfl rfl rfl ?_
 intro w0 D hw0
 refine Ze (Zb (Zt rfl rfl ?_))
 refine do_box trivial rfl (cs := [_, _, _, _, _, _, _, _, _, _]) rfl rfl rfl rfl ?_
 refine ya rfl rfl (Zf (ρ' := [(1, _)]) ⟨rfl, trivial⟩ ?_)
 refine Zd (Ze (Zb (Zt rfl rfl ?_)))
 refine do_alloc_t trivial Tryd.z85 rfl rfl rfl ?_
 refine rl_nilW 600 5 1 rfl rfl ?_
 refine Zf (ρ' := [(1, _), (3, _)]) ⟨rfl, rfl, trivial⟩ ?_
 refine Zd (Ze (Zb (Zg (Zl rfl Tryd.k44 rfl rfl rfl (vs := [_, _, _, _, _, _, _, _, _, _]) rfl rfl rfl) rfl ?_)))
 refine rl_name 3 rfl ⟨3, _, .inl rfl⟩ ?_
 intro b3
 refine Zt rfl rfl ?_
 refine Zal (caps := []) (ρ' := [(3, _)]) [3, 600] [] trivial rfl rfl rfl Tryd.c48 rfl rfl ⟨rfl, trivial⟩ rfl rfl rfl (FnO.mono (inlP _ b3 none (.inl rfl) none 0 [] _ u (by simp only [List.length_nil]; omega) ht hcs) ?_)
 rintro v uW l1 hleW ⟨rfl, rfl, a2, c2, rfl⟩ -
 refine ⟨⟨fun _ h => h, fun _ h => h, trivial⟩, ?_⟩
 refine Zf (ρ' := [(3, _)]) ⟨rfl, trivial⟩ ?_
 refine Zd (Ze (Zb (Zg (Zi rfl Tryd.f85' rfl (by decide) rfl) rfl (Zt rfl rfl ?_))))
 refine Zal (caps := []) (ρ' := []) [3, 600] [] trivial rfl rfl rfl Tryd.c45 rfl rfl trivial rfl rfl rfl (FnO.mono (wString_fn b3 (selfQ b3) a2 c2 _ (by simp only [List.nil_append]; omega) u) ?_)
 rintro v uS l1 hleS ⟨rfl, rfl, o2, rfl⟩ -
 refine ⟨⟨fun _ h => h, fun _ h => h, trivial⟩, ?_⟩
 refine ya rfl rfl (Zf (ρ' := [(2, _)]) ⟨rfl, trivial⟩ ?_)
 refine Zd (Zaj (Zbf (.tmp rfl) ?_))
 exact ⟨rfl, rfl⟩
def keysL (l : List Blk) : List Bs := l.map eB
theorem keys_snoc {l : List Blk} {i : Nat} {x : Blk} (h : l[i]? = some x) : strsC (keysL (l.take (i + 1))) = strsC (keysL (l.take i)) ++ [str (eB x)] := by
 obtain ⟨hlt, rfl⟩ := List.getElem?_eq_some_iff.1 h
 rw [List.take_succ_eq_append_getElem hlt]
 unfold keysL strsC
 rw [List.map_append, List.map_append]
 rfl
theorem keys_len (l : List Blk) (i : Nat) (h : i ≤ l.length) : (keysL (l.take i)).length = i := by simp [keysL]; omega
set_option maxHeartbeats 4000000 in
theorem keys_fn (l : List Blk) (hln : l.length ≤ 100000) (hl : ∀ x ∈ l, (eB x).length ≤ 10000000000) (v : Value) (u : View) (ht : TabU u) (ha : BlkS u v l) :
  FnP Tryd.prog 33 [v] u fun r u' => StrS u' r (keysL l) := by
 obtain ⟨cs, ⟨aA, cA, rfl, h1⟩, hc1⟩ := ha
 refine FnP.intro [.tmp 2] Tryd.func33 rfl rfl rfl ?_
 intro w0 D hw0
 refine Ze (Zb (ya rfl rfl (Zf (ρ' := [(0, _)]) ⟨rfl, trivial⟩ ?_)))
 refine Zd (Ze (Zb (ya rfl rfl ?_)))
 refine Zbv 3 503 9 1 rfl rfl rfl ?_
 refine Zf (ρ' := [(0, _), (3, _)]) ⟨rfl, rfl, trivial⟩ ?_
 refine Zd (Ze (Ze (Zb (ym rfl rfl (Zg (Zx rfl rfl Tryd.s29 rfl) rfl (ym rfl rfl (Zf (ρ' := [(3, _), (7, _), (8, _), (9, _)]) ⟨rfl, rfl, rfl, rfl, trivial⟩ ?_)))))))
 refine Zd (Zq ?_)
 refine Zaq (fun m_0 ρ σ u' => ∃ i : Nat, i + m_0 = l.length ∧ VLe u u' ∧ σ = [(503, (none, .row 9 1 (keysL (l.take i)).length (strsC (keysL (l.take i)))))] ∧ ρ = [(3, .s 503), (7, .v (.slice aA l.length cA)), (8, .v (.int .i64 l.length)), (9, .v (.int .i64 i))] ∧ (u = u')) (l.length) ?_ ?_
 ·
  refine ⟨[(3, _), (7, _), (8, _), (9, _)], [(503, _)], ⟨rfl, rfl, rfl, rfl, trivial⟩, ⟨rfl, trivial⟩, 0, by omega, VLe.refl _, (by first | rfl | simp), (by first | rfl | (simp only [List.cons.injEq, Prod.mk.injEq, SV.v.injEq, Value.int.injEq, true_and, and_true]; omega) | simp), ?_⟩
  rfl
 ·
  rintro m ρ σ u' ⟨i, hi3, hle3, rfl, rfl, rfl⟩
  refine Ze (Zb (Zg (Zav rfl rfl rfl) rfl (Zf (ρ' := [(3, _), (7, _), (8, _), (9, _), (10, _)]) ⟨rfl, rfl, rfl, rfl, rfl, trivial⟩ ?_)))
  refine Zd (Ze ?_)
  refine Zw rfl (fun hb3 => ?_) (fun hb3 => ?_)
  ·
   have h3 := of_decide_eq_true hb3
   obtain ⟨x, hx⟩ : ∃ x, l[i]? = some x := ⟨_, List.getElem?_eq_getElem (by omega)⟩
   have hC := hc1.get i x hx
   have hxl := hl x (List.mem_of_getElem? hx)
   have hT := keys_snoc hx
   have hkl := keys_len l i (by omega)
   have hkl2 := keys_len l (i + 1) (by omega)
   obtain ⟨k, lv, inf, t, d, ti, a, line, kids⟩ := x
   obtain ⟨vc, vp, vl, vk, hcut, -⟩ := hC.cells
   have hC2 := hC
   rw [hcut] at hC2
   have oneAll := hC2.one
   refine Zv (Zd (Ze (Zq (Ze (Zb (Zg (Zs rfl Tryd.s29 rfl rfl h1 rfl (by omega)) rfl (Zg (Zr rfl Tryd.k39 rfl h1 (by omega) hcut (vs := [_, _, _, _, _, _, _, _, _, _, _]) rfl rfl rfl rfl) rfl (Zt rfl rfl ?_))))))))
   refine Zau trivial Tryd.z39 rfl rfl rfl ?_
   refine Zt rfl rfl ?_
   refine Zao trivial rfl Tryd.k39 rfl rfl rfl (vs := [_, _, _, _, _, _, _, _, _, _, _]) rfl rfl (by first | rfl | assumption | simp [Value.oneCell', str]) (Nat.le_of_ble_eq_true rfl) rfl ?_
   refine Zf (ρ' := [(3, _), (5, _), (7, _), (8, _), (9, _)]) ⟨rfl, rfl, rfl, rfl, rfl, trivial⟩ ?_
   refine Zd (Ze (Zb (Zt rfl rfl ?_)))
   refine do_alloc_t trivial Tryd.z85 rfl rfl rfl ?_
   refine rl_nilW 600 5 1 rfl rfl ?_
   refine Zf (ρ' := [(3, _), (5, _), (6, _), (7, _), (8, _), (9, _)]) ⟨rfl, rfl, rfl, rfl, rfl, rfl, trivial⟩ ?_
   refine Zd (Ze (Zb (Zg (Zl rfl Tryd.k39 rfl rfl rfl (vs := [_, _, _, _, _, _, _, _, _, _, _]) rfl rfl rfl) rfl ?_)))
   refine rl_name 6 rfl ⟨6, _, .inl rfl⟩ ?_
   intro b6
   refine Zt rfl rfl ?_
   refine Zal (caps := []) (ρ' := [(3, _), (6, _), (7, _), (8, _), (9, _)]) [6, 600] [] trivial rfl rfl rfl Tryd.c44 rfl rfl ⟨rfl, rfl, rfl, rfl, rfl, trivial⟩ rfl rfl rfl (FnO.mono (blkP _ b6 none (.inl rfl) none 0 [] _ u (by simp only [List.length_nil]; omega) ht hC2) ?_)
   rintro v uW l1 hleW ⟨rfl, rfl, a2, c2, rfl⟩ -
   refine ⟨⟨fun _ h => h, fun _ h => h, trivial⟩, ?_⟩
   refine Zf (ρ' := [(3, _), (6, _), (7, _), (8, _), (9, _)]) ⟨rfl, rfl, rfl, rfl, rfl, trivial⟩ ?_
   refine Zd (Zb (ym rfl rfl (Zg (Zi rfl Tryd.f85' rfl (by decide) rfl) rfl (Zt rfl rfl ?_))))
   refine Zal (caps := []) (ρ' := [(7, _), (8, _), (9, _), (15, _)]) [6, 600] [] trivial rfl rfl rfl Tryd.c45 rfl rfl ⟨rfl, rfl, rfl, rfl, trivial⟩ rfl rfl rfl (FnO.mono (wString_fn b6 (selfQ b6) a2 c2 _ (by simp only [List.nil_append]; omega) u) ?_)
   rintro v uS l1 hleS ⟨rfl, rfl, o2, rfl⟩ -
   refine ⟨⟨fun _ h => h, fun _ h => h, trivial⟩, ?_⟩
   refine Zt rfl rfl ?_
   refine Zai trivial Tryd.s22 Tryd.z9 (ps := [(_, _)]) rfl (xs := [_]) rfl rfl rfl rfl rfl rfl rfl ?_
   refine Zt rfl rfl ?_
   refine Zay trivial rfl rfl Tryd.s22 Tryd.z9 rfl rfl rfl rfl rfl rfl (by first | rfl | assumption | simp [Value.oneCell', str]) (by omega) (by omega) (ρ' := [(7, _), (8, _), (9, _)]) ⟨rfl, rfl, rfl, trivial⟩ rfl rfl rfl ?_
   refine ya rfl rfl ?_
   refine Zbu 19 503 rfl rfl rfl ?_
   refine Zf (ρ' := [(3, _), (7, _), (8, _), (9, _)]) ⟨rfl, rfl, rfl, rfl, trivial⟩ ?_
   refine Zah (Zd (Zb (Zg (Zap rfl rfl rfl (Zk (by omega))) rfl ?_)))
   refine ym rfl rfl (Zf (ρ' := [(3, _), (7, _), (8, _), (9, _)]) ⟨rfl, rfl, rfl, rfl, trivial⟩ ?_)
   refine Zab ?_
   refine ⟨m - 1, [(3, _), (7, _), (8, _), (9, _)], [(503, _)], by omega, ⟨rfl, rfl, rfl, rfl, trivial⟩, ⟨rfl, trivial⟩, i + 1, by omega, hle3, (by rw [hT, hkl2, hkl]; rfl), (by first | rfl | simp), ?_⟩
   rfl
  ·
   have h3 := of_decide_eq_false hb3
   rw [List.take_of_length_le (by omega)]
   refine Zan ?_
   refine Zh (Zh ?_)
   refine Zu ?_
   refine Zd (Ze (Zb (ym rfl rfl (ya rfl rfl ?_))))
   refine Zaz 503 rfl ?_
   intro ad503 cap503 u503 hle503z hsl503
   refine Zf (ρ' := [(2, _)]) ⟨rfl, trivial⟩ ?_
   refine Zd (Zaj (Zbf (.tmp rfl) ?_))
   exact ⟨_, _, rfl, hsl503⟩
end Go.Proofs.Ytekkhlepbacapaa
namespace Go.Eng
open Go Go.RowKit
section
variable {F : Fx} {ρ : Env} {σ : Own} {u : View} {Q : Post} {σS : Own} {uS : View} {o : Oper}
theorem y_slice_lh {x lo hi : Operand} {t e : TypeId} {sz by' n cap i j : Nat} {ad : Option Addr} {k k2 : IntKind} {z z2 : Int} (ho : o.op = .slice t x (some lo) (some hi) none) (hS : tyS F.P t = some (e, sz, by')) (hx : opv ρ x = some (.v (.slice ad n cap)))
  (hlo : opv ρ lo = some (.v (.int k z))) (hhi : opv ρ hi = some (.v (.int k2 z2))) (hz : z = (i : Int)) (hz2 : z2 = (j : Int)) (hi : i ≤ j) (hj : j ≤ cap) : Yld F σS uS ρ σ u o (.v (.slice (if cap = i then ad else ad.map (·.add (i * sz))) (j - i) (cap - i))) := by
 intro bk hd a w hR
 subst hz
 subst hz2
 refine ⟨_, rfl, fun w' _ => ?_⟩
 obtain ⟨inf, hu, hinf, rfl, _⟩ := tyS_some hS
 have hb : (Instr.sliceBounds true n cap (some (.int k (i : Int))) (some (.int k2 (j : Int))) none).run F.P w' = .ok (i, j, cap) w' := by
  simp [Instr.sliceBounds, Instr.sliceBound, asIntOf, hi, hj]
 simp [execOp, ho, hR.op hx, hR.op hlo, hR.op hhi, Instr.sliceAt, run_underlying hu, Instr.slice, hb, sizeOf, typeInfo, hinf]
end
theorem SlC.short {u : View} {ad : Option Addr} {n cap sz i : Nat} {xs : List Value} (h : SlC u ad n cap sz xs) (hi : i ≤ n) : SlC u ad i cap sz (xs.take (i * sz)) := by
 obtain ⟨h1, h2, h3, h4⟩ := h
 have hm : i * sz ≤ n * sz := Nat.mul_le_mul_right _ hi
 refine ⟨by rw [List.length_take, h1]; omega, by omega, h3, fun hn => ?_⟩
 obtain ⟨b, off, c, T, fr, rfl, hu, hc⟩ := h4 (by omega)
 refine ⟨b, off, c, T, fr, rfl, hu, ?_⟩
 rw [← hc]
 unfold cut
 rw [List.take_take, Nat.min_eq_left hm]
theorem SlC.mid {u : View} {ad : Option Addr} {n cap sz i j : Nat} {xs : List Value} (h : SlC u ad n cap sz xs) (hij : i ≤ j) (hj : j ≤ n) : SlC u (if cap = i then ad else ad.map (·.add (i * sz))) (j - i) (cap - i) sz (cut xs (i * sz) ((j - i) * sz)) :=
 (h.from (i := i) (by omega)).short (i := j - i) (by omega)
end Go.Eng
namespace Go.Proofs.Ytekkhlepbacapaa
open Go Go.Eng
set_option linter.unusedSimpArgs false
set_option linter.unusedVariables false
set_option maxRecDepth 4000
def kB : Blk → Int
 | .mk k _ _ _ _ _ _ _ _ => k
def kAt (l : List Blk) (z : Int) : Int := ((l[z.toNat]?).map kB).getD 0
theorem kAt_of {l : List Blk} {z : Int} {x : Blk} (h : l[z.toNat]? = some x) : kAt l z = kB x := by simp [kAt, h]
def blockSteps (a b : List Blk) : List Chg := mrgL (kAt a) (kAt b) (textSteps (sameS (keysL a) (keysL b)) a.length b.length)
def lastC (L : List Chg) : Chg := L.getLast?.getD ⟨0, 0, 0⟩
theorem last_get {L : List Chg} (h : 0 < L.length) : L[L.length - 1]? = some (lastC L) := by
 unfold lastC
 rw [List.getLast?_eq_getElem?]
 simp [List.getElem?_eq_getElem (show L.length - 1 < L.length by omega)]
theorem mrg_yes {ka kb : Int → Int} {L : List Chg} {c : Chg} (h : 0 < L.length) (h2 : (lastC L).kind = 2 ∧ c.kind = 3 ∧ ka (lastC L).src = kb c.dst) : mrg ka kb L c = L.dropLast ++ [⟨4, (lastC L).src, c.dst⟩] := by
 unfold mrg
 have h1 : L.getLast? = some (lastC L) := by rw [List.getLast?_eq_getElem?, last_get h]
 rw [h1]
 simp only
 rw [if_pos h2]
theorem mrg_no {ka kb : Int → Int} {L : List Chg} {c : Chg} (h2 : ¬ (0 < L.length ∧ (lastC L).kind = 2 ∧ c.kind = 3 ∧ ka (lastC L).src = kb c.dst)) : mrg ka kb L c = L ++ [c] := by
 unfold mrg
 by_cases h : 0 < L.length
 ·
  have h1 : L.getLast? = some (lastC L) := by rw [List.getLast?_eq_getElem?, last_get h]
  rw [h1]
  simp only
  rw [if_neg (fun e => h2 ⟨h, e⟩)]
 ·
  have : L = [] := List.eq_nil_of_length_eq_zero (by omega)
  subst this
  rfl
theorem last_split {L : List Chg} (h : 0 < L.length) : L.dropLast ++ [lastC L] = L := by
 have hne : L ≠ [] := fun e => by rw [e] at h; simp at h
 have h1 : lastC L = L.getLast hne := by unfold lastC; rw [List.getLast?_eq_some_getLast hne]; rfl
 rw [h1]
 exact List.dropLast_concat_getLast hne
theorem set_mid (A B C : List Value) (h : B.length = C.length) : setAt (A ++ B) A.length C = A ++ C := by
 rw [setAt_eq _ _ _ (by rw [List.length_append]; omega), List.take_left, ← h, ← List.drop_drop, List.drop_left, List.drop_length, List.append_nil]
theorem set_last {L : List Chg} (h : 0 < L.length) (c : Chg) : setAt (chgsC L) ((L.length - 1) * 3) (chgC c) = chgsC (L.dropLast ++ [c]) := by
 have hl : (L.length - 1) * 3 = (chgsC L.dropLast).length := by rw [chgsC_len, List.length_dropLast]
 have h2 : chgsC L = chgsC L.dropLast ++ chgC (lastC L) := by
  conv => lhs; rw [← last_split h]
  rw [chgsC_app]
  simp [chgsC]
 rw [h2, hl, set_mid _ (chgC (lastC L)) (chgC c) rfl, chgsC_app]
 simp [chgsC]
theorem drop_len {L : List Chg} (h : 0 < L.length) (c : Chg) : (L.dropLast ++ [c]).length = L.length := by
 rw [List.length_append, List.length_dropLast]; simp; omega
theorem chgs_last {L : List Chg} {pk ps pd : Int} (h : 0 < L.length) (e : lastC L = ⟨pk, ps, pd⟩) : cut (chgsC L) ((L.length - 1) * 3) 3 = [.int .i64 pk, .int .i64 ps, .int .i64 pd] := by
 have := chgsC_cut (last_get h)
 rw [e] at this
 exact this
theorem cut_sub {xs : List Value} {o n i k : Nat} {ys : List Value} (h : cut xs o n = ys) (hi : i + k ≤ n) : cut xs (o + i) k = cut ys i k := by
 rw [← h, cut_cut hi]
theorem blk_of {l : List Blk} {cs : List Value} {u : View} {z : Int} {n : Nat} (hc : BlksC u l cs) (hn : l.length = n) (h0 : 0 ≤ z) (h1 : z < n) :
  ∃ (j : Nat) (xs : List Value), z = (j : Int) ∧ j < n ∧ cut cs (j * 11) 11 = .int .i64 (kAt l z) :: xs ∧ xs.length = 10 := by
 obtain ⟨j, rfl⟩ : ∃ j : Nat, z = j := ⟨z.toNat, by omega⟩
 have hj : j < l.length := by omega
 obtain ⟨k, lv, inf, t, d, ti, a, line, kids, vc, vp, vl, vk, hg, hcut, -⟩ := hc.at hj
 have hk : kAt l (j : Int) = k := kAt_of (x := .mk k lv inf t d ti a line kids) (by simpa using hg)
 rw [← hk] at hcut
 exact ⟨j, _, rfl, by omega, hcut, rfl⟩
set_option maxHeartbeats 8000000 in
theorem blocks_fn (a b : List Blk) (n m : Nat) (han : a.length = n) (hbm : b.length = m) (hn : n ≤ 31) (hm : m ≤ 31) (hka : ∀ x ∈ a, (eB x).length ≤ 10000000000) (hkb : ∀ x ∈ b, (eB x).length ≤ 10000000000)
  (wa wb va vb : Value) (u : View) (hT : TabU u) (ha : BlkS u va a) (hb : BlkS u vb b) :
  FnP Tryd.prog 16 [.agg #[wa, va], .agg #[wb, vb]] u fun r u' => ChS u' r (blockSteps a b) := by
 have ha2 := ha
 have hb2 := hb
 obtain ⟨csA, ⟨aA, cA, rfl, hA⟩, hcA⟩ := ha2
 obtain ⟨csB, ⟨aB, cB, rfl, hB⟩, hcB⟩ := hb2
 have hkla : (keysL a).length = n := by simp [keysL, han]
 have hklb : (keysL b).length = m := by simp [keysL, hbm]
 refine FnP.intro [.tmp 4] Tryd.func16 rfl rfl rfl ?_
 intro w0 D hw0
 refine Ze (Zb (Zt rfl rfl ?_))
 refine do_box trivial rfl (cs := [_, _]) rfl rfl rfl rfl ?_
 refine Zt rfl rfl ?_
 refine do_box trivial rfl (cs := [_, _]) rfl rfl rfl rfl ?_
 refine ya rfl rfl (Zf (ρ' := [(2, _), (3, _)]) ⟨rfl, rfl, trivial⟩ ?_)
 refine Zd (Ze (Zb (ya rfl rfl ?_)))
 refine Zbv 5 505 51 3 rfl rfl rfl ?_
 refine Zf (ρ' := [(2, _), (3, _), (5, _)]) ⟨rfl, rfl, rfl, trivial⟩ ?_
 refine Zd (Ze (Ze ?_))
 refine Zbb Tryd.mixed rfl [(2, _), (3, _)] ⟨rfl, rfl, trivial⟩ ?_
 refine Zak 0 rfl (by kernel_rfl) (Za (Za (Zn))) (Zi rfl Tryd.f31' rfl (by decide) rfl) rfl ?_
 refine Zak 1 rfl (by kernel_rfl) (Za (Za (Zn))) (Zl rfl Tryd.k29 rfl rfl rfl (vs := [_]) rfl rfl rfl) rfl ?_
 refine Zak 3 rfl (by kernel_rfl) (Za (Za (Zn))) (Zi rfl Tryd.f31' rfl (by decide) rfl) rfl ?_
 refine Zak 4 rfl (by kernel_rfl) (Za (Za (Zn))) (Zl rfl Tryd.k29 rfl rfl rfl (vs := [_]) rfl rfl rfl) rfl ?_
 refine Zak 8 rfl (by kernel_rfl) (Za (Za (Zn))) (Zae rfl rfl) rfl ?_
 refine Zbi (i := 2) rfl rfl (by kernel_rfl) ?_
 refine Zba (caps := []) ⟨rfl, rfl, trivial⟩ rfl rfl Tryd.c33 rfl (FnP.mono (keys_fn a (by omega) hka _ u hT ha) ?_)
 rintro v uK hle0 hk1 hleK
 refine Zbi (i := 5) rfl rfl (by kernel_rfl) ?_
 refine Zba (caps := []) ⟨rfl, rfl, trivial⟩ rfl rfl Tryd.c33 rfl (FnP.mono (keys_fn b (by omega) hkb _ uK (hT.mono hleK) (hb.mono hleK)) ?_)
 rintro v uM hle0 hk2 hleM
 refine Zbi (i := 6) rfl rfl (by kernel_rfl) ?_
 refine Zba (caps := []) ⟨rfl, rfl, trivial⟩ rfl rfl Tryd.c13 rfl (FnP.mono (texts_fn (keysL a) (keysL b) n m hkla hklb hn hm _ _ uM (hk1.mono hleM) hk2) ?_)
 rintro v uX hle0 hX hleX
 obtain ⟨l, hl⟩ : ∃ l, l = textSteps (sameS (keysL a) (keysL b)) n m := ⟨_, rfl⟩
 have hok : ∀ c ∈ l, okC n m c := by rw [hl]; exact textSteps_ok _ n m
 have hll : l.length ≤ 62 := by
  have := textSteps_counts (sameS (keysL a) (keysL b)) n m
  rw [hl]; omega
 have hbs : blockSteps a b = mrgL (kAt a) (kAt b) l := by unfold blockSteps; rw [han, hbm, hl]
 rw [← hl] at hX
 obtain ⟨aX, cX, rfl, hX⟩ := hX
 rw [hbs]
 refine Zak 7 rfl (by kernel_rfl) (Za (Za (Zn))) (Zx rfl rfl Tryd.s26 rfl) rfl ?_
 refine Zbn (by kernel_rfl) (ρ' := [(2, _), (3, _), (5, _), (17, _), (18, _), (19, _)]) ⟨rfl, rfl, rfl, rfl, rfl, rfl, trivial⟩ ?_
 refine Zd (Zq ?_)
 refine Zaq (fun m_0 ρ σ u' => ∃ z : Nat, z + m_0 = l.length ∧ VLe uX u' ∧ σ = [(2, (none, .box [wa, .slice aA a.length cA])), (3, (none, .box [wb, .slice aB b.length cB])), (505, (none, .row 51 3 (mrgL (kAt a) (kAt b) (l.take z)).length (chgsC (mrgL (kAt a) (kAt b) (l.take z)))))] ∧ ρ = [(2, .p 2 0), (3, .p 3 0), (5, .s 505), (17, .v (.slice aX l.length cX)), (18, .v (.int .i64 l.length)), (19, .v (.int .i64 (z : Nat)))] ∧ (True)) (l.length) ?_ ?_
 ·
  refine ⟨[(2, _), (3, _), (5, _), (17, _), (18, _), (19, _)], [(2, _), (3, _), (505, _)], ⟨rfl, rfl, rfl, rfl, rfl, rfl, trivial⟩, ⟨rfl, rfl, rfl, trivial⟩, 0, by omega, VLe.refl _, (by first | rfl | simp), (by first | rfl | (simp only [List.cons.injEq, Prod.mk.injEq, SV.v.injEq, Value.int.injEq, true_and, and_true]; omega) | simp), ?_⟩
  trivial
 ·
  rintro mz ρ σ u' ⟨z, hi3, hle3, rfl, rfl, hinv3⟩
  refine Ze (Zb (Zg (Zav rfl rfl rfl) rfl (Zf (ρ' := [(2, _), (3, _), (5, _), (17, _), (18, _), (19, _), (20, _)]) ⟨rfl, rfl, rfl, rfl, rfl, rfl, rfl, trivial⟩ ?_)))
  refine Zd (Ze ?_)
  refine Zw rfl (fun hb3 => ?_) (fun hb3 => ?_)
  ·
   have h3 := of_decide_eq_true hb3
   obtain ⟨⟨kd, sr, ds⟩, hc⟩ : ∃ c, l[z]? = some c := ⟨_, List.getElem?_eq_getElem (by omega)⟩
   have hcut : cut (chgsC l) (z * 3) 3 = [.int .i64 kd, .int .i64 sr, .int .i64 ds] := chgsC_cut hc
   have hTk := mrgL_take (kAt a) (kAt b) hc
   have hLk := mrgL_ok (ka := kAt a) (kb := kAt b) hok z
   have hLn := mrgL_len (kAt a) (kAt b) l z
   have hcok := hok _ (List.mem_of_getElem? hc)
   obtain ⟨L, hL⟩ : ∃ L, L = mrgL (kAt a) (kAt b) (l.take z) := ⟨_, rfl⟩
   rw [← hL] at hTk hLk hLn ⊢
   obtain ⟨⟨pk, ps, pd⟩, hp⟩ : ∃ p, lastC L = p := ⟨_, rfl⟩
   have hpok : 0 < L.length → okC n m ⟨pk, ps, pd⟩ := fun h => by rw [← hp]; exact hLk _ (List.mem_of_getElem? (last_get h))
   have hXu := hX.mono hle3
   have hmo := (hleK.trans (hleM.trans (hleX.trans hle3)))
   refine Zv (Zd (Ze (Zq (Ze (Zb (Zg (Zs rfl Tryd.s26 rfl rfl hXu rfl (by omega)) rfl (Zg (Zr rfl Tryd.k51 rfl hXu (by omega) hcut (vs := [_, _, _]) rfl rfl rfl rfl) rfl (Zt rfl rfl ?_))))))))
   refine Zau trivial Tryd.z51 rfl rfl rfl ?_
   refine Zt rfl rfl ?_
   refine Zao trivial rfl Tryd.k51 rfl rfl rfl (vs := [_, _, _]) rfl rfl (by first | rfl | assumption | simp [Value.oneCell', str]) (Nat.le_of_ble_eq_true rfl) rfl ?_
   refine Zf (ρ' := [(2, _), (3, _), (5, _), (7, _), (17, _), (18, _), (19, _)]) ⟨rfl, rfl, rfl, rfl, rfl, rfl, rfl, trivial⟩ ?_
   refine Zd (Ze (Zb (ym rfl rfl (Zg (y_len_s rfl rfl Tryd.s26 rfl rfl) rfl (ya rfl rfl (Zf (ρ' := [(2, _), (3, _), (5, _), (7, _), (8, _), (17, _), (18, _), (19, _)]) ⟨rfl, rfl, rfl, rfl, rfl, rfl, rfl, rfl, trivial⟩ ?_))))))
   refine Zd ?_
   refine wc_cut (fun ρ σ uc11 => VLe u' uc11 ∧ σ = [(2, (none, .box [wa, .slice aA a.length cA])), (3, (none, .box [wb, .slice aB b.length cB])), (7, (none, .box [.int .i64 kd, .int .i64 sr, .int .i64 ds])), (505, (none, .row 51 3 L.length (chgsC L)))] ∧ ρ = [(2, .p 2 0), (3, .p 3 0), (5, .s 505), (7, .p 7 0), (17, .v (.slice aX l.length cX)), (18, .v (.int .i64 l.length)), (19, .v (.int .i64 (z : Nat)))] ∧ (mrg (kAt a) (kAt b) L ⟨kd, sr, ds⟩ = L ++ [⟨kd, sr, ds⟩])) ?_ ?_
   ·
    refine Ze ?_
    refine Zbd 31 (decide (0 < L.length ∧ kd = 3)) (ρk := [(2, _), (3, _), (5, _), (7, _), (8, _), (17, _), (18, _), (19, _)]) ⟨rfl, rfl, rfl, rfl, rfl, rfl, rfl, rfl, trivial⟩ ?_ ?_
    ·
     refine Zb (ym rfl rfl (Zg (y_gtr rfl rfl rfl) rfl (ym rfl rfl ?_)))
     refine Zar 27 rfl (fun hg6_2 => ?_) (fun hg6_2 => ?_)
     ·
      refine Zp rfl rfl (Zg (Zi rfl Tryd.f51' rfl (by decide) rfl) rfl (Zp rfl rfl (Zg (Zl rfl Tryd.k3 rfl rfl rfl (vs := [_]) rfl rfl rfl) rfl (Zp rfl rfl (Zg (Zbl rfl rfl rfl) rfl (Zg (Zo rfl rfl rfl) rfl ?_))))))
      exact Zam rfl ⟨rfl, rfl, rfl, rfl, rfl, rfl, rfl, rfl, trivial⟩ (by
      first
      | (refine (decide_eq_false fun h => ?_).symm; have := of_decide_eq_false hg6_2; omega)
      | (refine decide_eq_decide.2 ?_; have := of_decide_eq_true hg6_2; omega))
     ·
      iterate 3 refine Zaf rfl rfl rfl rfl ?_
      refine Zg (Zad rfl rfl rfl) rfl ?_
      exact Zam rfl ⟨rfl, rfl, rfl, rfl, rfl, rfl, rfl, rfl, trivial⟩ (by
      first
      | (refine (decide_eq_false fun h => ?_).symm; have := of_decide_eq_false hg6_2; omega)
      | (refine decide_eq_decide.2 ?_; have := of_decide_eq_true hg6_2; omega))
    refine Zd ?_
    refine Zw rfl (fun hb6 => ?_) (fun hb6 => ?_)
    ·
     have h6 := of_decide_eq_true hb6
     have hpos := h6.1
     have hcl := chgs_last hpos hp
     have hpok := hpok hpos
     have hcm : cmpB [(0, .i .i64), (1, .i .i64), (2, .i .i64)] [.int .i64 pk, .int .i64 ps, .int .i64 pd] [.int .i64 2, .int .i64 ps, .int .i64 (-1)] = decide (pk = 2 ∧ pd = -1) := by
      show ((pk == 2) && ((ps == ps) && ((pd == -1) && true))) = _
      rw [Bool.eq_iff_iff]
      simp
     refine Ze (Zb (ym rfl rfl (ym rfl rfl (Zg (y_sub rfl rfl rfl (Zk (by omega))) rfl ?_))))
     refine Zg (y_index_s rfl Tryd.s26 rfl rfl rfl (j := L.length - 1) (by first | rfl | omega) (by omega)) rfl (Zg (y_load_s rfl Tryd.k51 rfl rfl rfl hcl (vs := [_, _, _]) rfl rfl (by rw [chgsC_len]; omega)) rfl (Zt rfl rfl ?_))
     refine Zau trivial Tryd.z51 rfl rfl rfl ?_
     refine Zt rfl rfl ?_
     refine Zao trivial rfl Tryd.k51 rfl rfl rfl (vs := [_, _, _]) rfl rfl (by first | rfl | assumption | simp [Value.oneCell', str]) (Nat.le_of_ble_eq_true rfl) rfl ?_
     refine Zf (ρ' := [(2, _), (3, _), (5, _), (7, _), (8, _), (9, _), (17, _), (18, _), (19, _)]) ⟨rfl, rfl, rfl, rfl, rfl, rfl, rfl, rfl, rfl, trivial⟩ ?_
     refine Zd (Ze (Zb (Zg (Zl rfl Tryd.k51 rfl rfl rfl (vs := [_, _, _]) rfl rfl rfl) rfl (Zg (Zi rfl Tryd.f51' rfl (by decide) rfl) rfl (Zg (Zl rfl Tryd.k3 rfl rfl rfl (vs := [_]) rfl rfl rfl) rfl (Zg (Zbh rfl Tryd.f51' Tryd.z51 (ps := [(_, _), (_, _), (_, _)]) rfl (vs := [_, _, _]) rfl) rfl ?_))))))
     refine Zg (y_eql_flat Tryd.q51 rfl rfl rfl rfl rfl) rfl ?_
     rw [hcm]
     refine ya rfl rfl (Zf (ρ' := [(2, _), (3, _), (5, _), (7, _), (8, _), (9, _), (10, _), (17, _), (18, _), (19, _)]) ⟨rfl, rfl, rfl, rfl, rfl, rfl, rfl, rfl, rfl, rfl, trivial⟩ ?_)
     refine Zd (Ze ?_)
     refine Zbd 59 (decide ((pk = 2 ∧ pd = -1) ∧ kAt a ps = kAt b ds)) (ρk := [(2, _), (3, _), (5, _), (7, _), (8, _), (9, _), (17, _), (18, _), (19, _)]) ⟨rfl, rfl, rfl, rfl, rfl, rfl, rfl, rfl, rfl, trivial⟩ ?_ ?_
     ·
      refine Zbb Tryd.mixed rfl [(2, _), (3, _), (7, _), (9, _)] ⟨rfl, rfl, rfl, rfl, trivial⟩ ?_
      refine Zak 0 rfl (by kernel_rfl) (Zj) (Zae rfl rfl) rfl (Zak 1 rfl (by kernel_rfl) (Zj) (Zae rfl rfl) rfl ?_)
      refine ra_case 43 rfl (fun hg9_1 => ?_) (fun hg9_1 => ?_)
      ·
       refine Zaw 2 rfl rfl rfl (by kernel_rfl) (Zj) (Zi rfl Tryd.f31' rfl (by decide) rfl) rfl ?_
       have h9 := of_decide_eq_true hg9_1
       obtain ⟨jA, xA, hjA, hjA2, hcutA, hxA⟩ := blk_of hcA han (hpok.1 h9.1).1 (hpok.1 h9.1).2.1
       obtain ⟨jB, xB, hjB, hjB2, hcutB, hxB⟩ := blk_of hcB hbm (hcok.2 h6.2).1 (hcok.2 h6.2).2
       refine Zaw 3 rfl rfl rfl (by kernel_rfl) (Zj) (Zl rfl Tryd.k29 rfl rfl rfl (vs := [_]) rfl rfl rfl) rfl ?_
       refine Zaw 4 rfl rfl rfl (by kernel_rfl) (Zj) (Zi rfl Tryd.f51' rfl (by decide) rfl) rfl ?_
       refine Zaw 5 rfl rfl rfl (by kernel_rfl) (Zj) (Zl rfl Tryd.k3 rfl rfl rfl (vs := [_]) rfl rfl rfl) rfl ?_
       refine Zaw 6 rfl rfl rfl (by kernel_rfl) (Zj) (Zs rfl Tryd.s29 rfl rfl (hA.mono hmo) (j := jA) hjA (by omega)) rfl ?_
       refine Zaw 7 rfl rfl rfl (by kernel_rfl) (Zj) (Zbc rfl Tryd.f39' rfl (by decide) rfl) rfl ?_
       refine Zaw 8 rfl rfl rfl (by kernel_rfl) (Zj) (Zr rfl Tryd.k3 rfl (hA.mono hmo) (by omega) hcutA (vs := [_]) rfl rfl rfl rfl) rfl ?_
       refine Zaw 9 rfl rfl rfl (by kernel_rfl) (Zj) (Zi rfl Tryd.f31' rfl (by decide) rfl) rfl ?_
       refine Zaw 10 rfl rfl rfl (by kernel_rfl) (Zj) (Zl rfl Tryd.k29 rfl rfl rfl (vs := [_]) rfl rfl rfl) rfl ?_
       refine Zaw 11 rfl rfl rfl (by kernel_rfl) (Zj) (Zi rfl Tryd.f51' rfl (by decide) rfl) rfl ?_
       refine Zaw 12 rfl rfl rfl (by kernel_rfl) (Zj) (Zl rfl Tryd.k3 rfl rfl rfl (vs := [_]) rfl rfl rfl) rfl ?_
       refine Zaw 13 rfl rfl rfl (by kernel_rfl) (Zj) (Zs rfl Tryd.s29 rfl rfl (hB.mono hmo) (j := jB) hjB (by omega)) rfl ?_
       refine Zaw 14 rfl rfl rfl (by kernel_rfl) (Zj) (Zbc rfl Tryd.f39' rfl (by decide) rfl) rfl ?_
       refine Zaw 15 rfl rfl rfl (by kernel_rfl) (Zj) (Zr rfl Tryd.k3 rfl (hB.mono hmo) (by omega) hcutB (vs := [_]) rfl rfl rfl rfl) rfl ?_
       refine Zaw 16 rfl rfl rfl (by kernel_rfl) (Zj) (Zbl rfl rfl rfl) rfl ?_
       refine Zak 17 rfl (by kernel_rfl) (Zj) (Zo rfl rfl rfl) rfl ?_
       exact Zbq (by kernel_rfl) rfl ⟨rfl, rfl, rfl, rfl, rfl, rfl, rfl, rfl, rfl, trivial⟩ (by
       first
       | (refine (decide_eq_false fun h => ?_).symm; exact of_decide_eq_false hg9_1 h.1)
       | exact decide_eq_decide.2 ⟨fun h => ⟨of_decide_eq_true hg9_1, h⟩, fun h => h.2⟩)
      ·
       refine Zag 2 rfl rfl rfl rfl (by kernel_rfl) (Zj) rfl (Zag 3 rfl rfl rfl rfl (by kernel_rfl) (Zj) rfl (Zag 4 rfl rfl rfl rfl (by kernel_rfl) (Zj) rfl (Zag 5 rfl rfl rfl rfl (by kernel_rfl) (Zj) rfl (Zag 6 rfl rfl rfl rfl (by kernel_rfl) (Zj) rfl (Zag 7 rfl rfl rfl rfl (by kernel_rfl) (Zj) rfl (Zag 8 rfl rfl rfl rfl (by kernel_rfl) (Zj) rfl (Zag 9 rfl rfl rfl rfl (by kernel_rfl) (Zj) rfl ?_)))))))
       refine Zag 10 rfl rfl rfl rfl (by kernel_rfl) (Zj) rfl (Zag 11 rfl rfl rfl rfl (by kernel_rfl) (Zj) rfl (Zag 12 rfl rfl rfl rfl (by kernel_rfl) (Zj) rfl (Zag 13 rfl rfl rfl rfl (by kernel_rfl) (Zj) rfl (Zag 14 rfl rfl rfl rfl (by kernel_rfl) (Zj) rfl (Zag 15 rfl rfl rfl rfl (by kernel_rfl) (Zj) rfl (Zag 16 rfl rfl rfl rfl (by kernel_rfl) (Zj) rfl ?_))))))
       refine Zak 17 rfl (by kernel_rfl) (Zj) (Zad rfl rfl rfl) rfl ?_
       exact Zbq (by kernel_rfl) rfl ⟨rfl, rfl, rfl, rfl, rfl, rfl, rfl, rfl, rfl, trivial⟩ (by
       first
       | (refine (decide_eq_false fun h => ?_).symm; exact of_decide_eq_false hg9_1 h.1)
       | exact decide_eq_decide.2 ⟨fun h => ⟨of_decide_eq_true hg9_1, h⟩, fun h => h.2⟩)
     refine Zd ?_
     refine Zw rfl (fun hb9 => ?_) (fun hb9 => ?_)
     ·
      have h9 := of_decide_eq_true hb9
      have hM : mrg (kAt a) (kAt b) L ⟨kd, sr, ds⟩ = L.dropLast ++ [⟨4, ps, ds⟩] := by
       have := mrg_yes (ka := kAt a) (kb := kAt b) (L := L) (c := ⟨kd, sr, ds⟩) hpos (by rw [hp]; exact ⟨h9.1.1, h6.2, h9.2⟩)
       rw [this, hp]
      have hset : setAt (chgsC L) ((L.length - 1) * 3) [.int .i64 4, .int .i64 ps, .int .i64 ds] = chgsC (L.dropLast ++ [⟨4, ps, ds⟩]) := set_last hpos ⟨4, ps, ds⟩
      refine Ze (Zb (ym rfl rfl (ym rfl rfl (Zg (y_sub rfl rfl rfl (Zk (by omega))) rfl ?_))))
      refine Zg (Zi rfl Tryd.f51' rfl (by decide) rfl) rfl (Zg (Zl rfl Tryd.k3 rfl rfl rfl (vs := [_]) rfl rfl rfl) rfl (Zg (Zi rfl Tryd.f51' rfl (by decide) rfl) rfl (Zg (Zl rfl Tryd.k3 rfl rfl rfl (vs := [_]) rfl rfl rfl) rfl (Zg (Zbh rfl Tryd.f51' Tryd.z51 (ps := [(_, _), (_, _), (_, _)]) rfl (vs := [_, _, _]) rfl) rfl ?_))))
      refine Zg (y_index_s rfl Tryd.s26 rfl rfl rfl (j := L.length - 1) (by first | rfl | omega) (by omega)) rfl (Zt rfl rfl ?_)
      refine do_store_s trivial rfl Tryd.k51 rfl rfl rfl (vs := [_, _, _]) rfl rfl (by first | rfl | assumption | simp [Value.oneCell', str]) (by rw [chgsC_len]; omega) rfl ?_
      rw [hset]
      refine Zf (ρ' := [(2, _), (3, _), (5, _), (17, _), (18, _), (19, _)]) ⟨rfl, rfl, rfl, rfl, rfl, rfl, trivial⟩ ?_
      refine Zd ?_
      refine Zan ?_
      refine Zh ?_
      refine Zu ?_
      refine Zd (Zb (Zg (Zap rfl rfl rfl (Zk (by omega))) rfl ?_))
      refine ym rfl rfl (Zf (ρ' := [(2, _), (3, _), (5, _), (17, _), (18, _), (19, _)]) ⟨rfl, rfl, rfl, rfl, rfl, rfl, trivial⟩ ?_)
      refine Zab ?_
      refine ⟨mz - 1, [(2, _), (3, _), (5, _), (17, _), (18, _), (19, _)], [(2, _), (3, _), (505, _)], by omega, ⟨rfl, rfl, rfl, rfl, rfl, rfl, trivial⟩, ⟨rfl, rfl, rfl, trivial⟩, z + 1, by omega, (by first | exact hle3 | exact hle3.trans hlc11), (by rw [hTk, hM]; first | (rw [chgsC_app, List.length_append]; rfl) | (rw [drop_len hpos])), (by first | rfl | simp), ?_⟩
      trivial
     ·
      have h9 := of_decide_eq_false hb9
      have hM : mrg (kAt a) (kAt b) L ⟨kd, sr, ds⟩ = L ++ [⟨kd, sr, ds⟩] := mrg_no fun e => by
       rw [hp] at e
       exact h9 ⟨⟨e.2.1, (hpok.1 e.2.1).2.2⟩, e.2.2.2⟩
      refine Zv (Zab ?_)
      refine ⟨[(2, _), (3, _), (5, _), (7, _), (17, _), (18, _), (19, _)], [(2, _), (3, _), (7, _), (505, _)], ⟨rfl, rfl, rfl, rfl, rfl, rfl, rfl, trivial⟩, ⟨rfl, rfl, rfl, rfl, trivial⟩, (VLe.refl _), (by first | rfl | simp), (by first | rfl | (simp only [List.cons.injEq, Prod.mk.injEq, SV.v.injEq, Value.int.injEq, true_and, and_true]; omega) | simp), ?_⟩
      exact hM
    ·
     have h6 := of_decide_eq_false hb6
     have hM : mrg (kAt a) (kAt b) L ⟨kd, sr, ds⟩ = L ++ [⟨kd, sr, ds⟩] := mrg_no fun e => h6 ⟨e.1, e.2.2.1⟩
     refine Zv (Zab ?_)
     refine ⟨[(2, _), (3, _), (5, _), (7, _), (17, _), (18, _), (19, _)], [(2, _), (3, _), (7, _), (505, _)], ⟨rfl, rfl, rfl, rfl, rfl, rfl, rfl, trivial⟩, ⟨rfl, rfl, rfl, rfl, trivial⟩, (VLe.refl _), (by first | rfl | simp), (by first | rfl | (simp only [List.cons.injEq, Prod.mk.injEq, SV.v.injEq, Value.int.injEq, true_and, and_true]; omega) | simp), ?_⟩
     exact hM
   ·
    rintro ρ σ uc11 ⟨hlc11, rfl, rfl, hM⟩
    refine Zb (ym rfl rfl (Zg (Zl rfl Tryd.k51 rfl rfl rfl (vs := [_, _, _]) rfl rfl rfl) rfl (Zt rfl rfl ?_)))
    refine Zai trivial Tryd.s26 Tryd.z51 (ps := [(_, _)]) rfl (xs := [_, _, _]) rfl rfl rfl rfl rfl rfl rfl ?_
    refine Zt rfl rfl ?_
    refine Zay trivial rfl rfl Tryd.s26 Tryd.z51 rfl rfl rfl rfl rfl rfl (by first | rfl | assumption | simp [Value.oneCell', str]) (by omega) (by omega) (ρ' := [(2, _), (3, _), (17, _), (18, _), (19, _)]) ⟨rfl, rfl, rfl, rfl, rfl, trivial⟩ rfl rfl rfl ?_
    refine ya rfl rfl ?_
    refine Zbu 72 505 rfl rfl rfl ?_
    refine Zf (ρ' := [(2, _), (3, _), (5, _), (17, _), (18, _), (19, _)]) ⟨rfl, rfl, rfl, rfl, rfl, rfl, trivial⟩ ?_
    refine Zah (Zd (Zb (Zg (Zap rfl rfl rfl (Zk (by omega))) rfl ?_)))
    refine ym rfl rfl (Zf (ρ' := [(2, _), (3, _), (5, _), (17, _), (18, _), (19, _)]) ⟨rfl, rfl, rfl, rfl, rfl, rfl, trivial⟩ ?_)
    refine Zab ?_
    refine ⟨mz - 1, [(2, _), (3, _), (5, _), (17, _), (18, _), (19, _)], [(2, _), (3, _), (505, _)], by omega, ⟨rfl, rfl, rfl, rfl, rfl, rfl, trivial⟩, ⟨rfl, rfl, rfl, trivial⟩, z + 1, by omega, (by first | exact hle3 | exact hle3.trans hlc11), (by rw [hTk, hM]; first | (rw [chgsC_app, List.length_append]; rfl) | (rw [drop_len hpos])), (by first | rfl | simp), ?_⟩
    trivial
  ·
   have h3 := of_decide_eq_false hb3
   rw [List.take_of_length_le (by omega)]
   refine Zan ?_
   refine Zh (Zh ?_)
   refine Zu ?_
   refine Zd (Ze (Zb (ym rfl rfl ?_)))
   refine Zaz 505 rfl ?_
   intro ad505 cap505 uF hleF hF
   refine ya rfl rfl (Zf (ρ' := [(4, _)]) ⟨rfl, trivial⟩ ?_)
   refine Zd (Zaj (Zbf (.tmp rfl) ?_))
   exact ⟨_, _, rfl, hF⟩
theorem keys_get {l : List Blk} {i : Nat} {x : Blk} (h : l[i]? = some x) : (keysL l)[i]? = some (eB x) := by simp [keysL, h]
theorem blk_same {a b : List Blk} {i j : Nat} {x y : Blk} (hx : a[i]? = some x) (hy : b[j]? = some y) {e : Bool} (h : e = true ↔ [x] = [y]) : e = sameS (keysL a) (keysL b) i j := by
 unfold sameS
 rw [keys_get hx, keys_get hy]
 rw [Bool.eq_iff_iff, h]
 constructor
 ·
  intro e; cases e; simp
 ·
  intro e
  have e := of_decide_eq_true e
  rw [eB_inj (Option.some.inj e)]
set_option maxHeartbeats 16000000 in
theorem refBlocks_fn (a b : List Blk) (n m : Nat) (han : a.length = n) (hbm : b.length = m) (hn : n ≤ 31) (hm : m ≤ 31)
  (wa wb va vb : Value) (u : View) (ha : BlkS u va a) (hb : BlkS u vb b) :
  FnP Tryd.prog 17 [.agg #[wa, va], .agg #[wb, vb]] u fun r u' => ChS u' r (blockSteps a b) := by
 obtain ⟨csA, ⟨aA, cA, rfl, hA⟩, hcA⟩ := ha
 obtain ⟨csB, ⟨aB, cB, rfl, hB⟩, hcB⟩ := hb
 rw [han] at hA
 rw [hbm] at hB
 rw [han, hbm]
 obtain ⟨same, hsame⟩ : ∃ s, s = sameS (keysL a) (keysL b) := ⟨_, rfl⟩
 have hbs : blockSteps a b = mrgL (kAt a) (kAt b) (textSteps same n m) := by unfold blockSteps; rw [han, hbm, hsame]
 rw [hbs]
 refine FnP.intro [.tmp 4] Tryd.func17 rfl rfl rfl ?_
 intro w0 D hw0
 refine Ze (Zb (Zt rfl rfl ?_))
 refine do_box trivial rfl (cs := [_, _]) rfl rfl rfl rfl ?_
 refine Zt rfl rfl ?_
 refine do_box trivial rfl (cs := [_, _]) rfl rfl rfl rfl ?_
 refine ya rfl rfl (Zf (ρ' := [(2, _), (3, _)]) ⟨rfl, rfl, trivial⟩ ?_)
 refine Zd (Ze (Zb (Zg (Zi rfl Tryd.f31' rfl (by decide) rfl) rfl (Zg (Zl rfl Tryd.k29 rfl rfl rfl (vs := [_]) rfl rfl rfl) rfl (Zg (Zx rfl rfl Tryd.s29 rfl) rfl (Zt rfl rfl ?_))))))
 refine Zbr (n) trivial Tryd.s62 Tryd.z52 rfl rfl (by first | rfl | omega) (by first | rfl | omega) (by omega) (by omega) rfl rfl rfl ?_
 intro ad15
 rw [rep_cF]
 refine ya rfl rfl (Zf (ρ' := [(2, _), (3, _), (5, _)]) ⟨rfl, rfl, rfl, trivial⟩ ?_)
 refine Zd (Ze (Ze (Zb (ya rfl rfl (Zf (ρ' := [(2, _), (3, _), (5, _), (6, _)]) ⟨rfl, rfl, rfl, rfl, trivial⟩ ?_)))))
 refine Zd (Zq ?_)
 refine Zaq (fun m_0 ρ σ u' => ∃ x : Nat, x + m_0 = n ∧ VLe u u' ∧ ∃ (R : Nat → Value), σ = [(2, (none, .box [wa, .slice aA n cA])), (3, (none, .box [wb, .slice aB m cB])), (15, (none, .rwv (.slice ad15 n n) 52 1 n (cF n R)))] ∧ ρ = [(2, .p 2 0), (3, .p 3 0), (5, .v (.slice ad15 n n)), (6, .v (.int .i64 (x : Nat)))] ∧ (∀ k, k < x → IsSl u' (R k) m 1 (cF m fun j => .bool (same k j)))) (n) ?_ ?_
 ·
  refine ⟨[(2, _), (3, _), (5, _), (6, _)], [(2, _), (3, _), (15, _)], ⟨rfl, rfl, rfl, rfl, trivial⟩, ⟨rfl, rfl, rfl, trivial⟩, 0, by omega, VLe.refl _, fun _ => .slice none 0 0, (by first | rfl | simp), (by first | rfl | (simp only [List.cons.injEq, Prod.mk.injEq, SV.v.injEq, Value.int.injEq, true_and, and_true]; omega) | simp), ?_⟩
  exact fun k hk => by omega
 ·
  rintro mx ρ σ u' ⟨x, hi3, hle3, R, rfl, rfl, hR⟩
  refine Ze (Ze (Zb (ym rfl rfl (Zg (Zi rfl Tryd.f31' rfl (by decide) rfl) rfl (Zg (Zl rfl Tryd.k29 rfl rfl rfl (vs := [_]) rfl rfl rfl) rfl (Zg (Zx rfl rfl Tryd.s29 rfl) rfl (Zg (Zav rfl rfl rfl) rfl (Zf (ρ' := [(2, _), (3, _), (5, _), (6, _), (20, _)]) ⟨rfl, rfl, rfl, rfl, rfl, trivial⟩ ?_))))))))
  refine Zd ?_
  refine Zw rfl (fun hb3 => ?_) (fun hb3 => ?_)
  ·
   have h3 := of_decide_eq_true hb3
   obtain ⟨X, hX⟩ : ∃ s, a[x]? = some s := ⟨_, List.getElem?_eq_getElem (by omega)⟩
   obtain ⟨uO, huO⟩ : ∃ x, x = u' := ⟨_, rfl⟩
   subst huO
   refine Zv (Zd (Ze (Zq (Ze (Zb (ym rfl rfl (ym rfl rfl ?_)))))))
   refine Zg (Zi rfl Tryd.f31' rfl (by decide) rfl) rfl (Zg (Zl rfl Tryd.k29 rfl rfl rfl (vs := [_]) rfl rfl rfl) rfl (Zg (Zx rfl rfl Tryd.s29 rfl) rfl (Zt rfl rfl ?_)))
   refine Zbr (m) trivial Tryd.s52 Tryd.z4 rfl rfl (by first | rfl | omega) (by first | rfl | omega) (by omega) (by omega) rfl rfl rfl ?_
   intro ad28
   rw [rep_cF, rowQ0 (same := same) (i := x)]
   refine Zg (Zas 15 rfl Tryd.s62 rfl rfl rfl (j := x) (by first | rfl | omega) (by omega)) rfl (Zt rfl rfl ?_)
   refine Zbe trivial rfl Tryd.k52 rfl rfl rfl (vs := [_]) rfl rfl (by first | rfl | assumption | simp [Value.oneCell', str]) (by first | omega | (rw [cF_len]; omega) | simp) (by first | exact cF_set (by omega) | rfl) ?_
   refine Zf (ρ' := [(2, _), (3, _), (5, _), (6, _)]) ⟨rfl, rfl, rfl, rfl, trivial⟩ ?_
   refine Zd (Ze (Zb (ya rfl rfl (Zf (ρ' := [(2, _), (3, _), (5, _), (6, _), (7, _)]) ⟨rfl, rfl, rfl, rfl, rfl, trivial⟩ ?_))))
   refine Zd (Zq ?_)
   refine Zaq (fun m_0 ρ σ u' => ∃ j : Nat, j + m_0 = m ∧ VLe uO u' ∧ σ = [(2, (none, .box [wa, .slice aA n cA])), (3, (none, .box [wb, .slice aB m cB])), (15, (none, .rwv (.slice ad15 n n) 52 1 n (cF n (fun k => if k = x then .slice ad28 m m else R k)))), (28, (none, .rwv (.slice ad28 m m) 4 1 m (cF m (rowQ same x j))))] ∧ ρ = [(2, .p 2 0), (3, .p 3 0), (5, .v (.slice ad15 n n)), (6, .v (.int .i64 (x : Nat))), (7, .v (.int .i64 (j : Nat)))] ∧ (True)) (m) ?_ ?_
   ·
    refine ⟨[(2, _), (3, _), (5, _), (6, _), (7, _)], [(2, _), (3, _), (15, _), (28, _)], ⟨rfl, rfl, rfl, rfl, rfl, trivial⟩, ⟨rfl, rfl, rfl, rfl, trivial⟩, 0, by omega, VLe.refl _, (by first | rfl | simp), (by first | rfl | (simp only [List.cons.injEq, Prod.mk.injEq, SV.v.injEq, Value.int.injEq, true_and, and_true]; omega) | simp), ?_⟩
    trivial
   ·
    rintro mj ρ σ u' ⟨j, hi7, hle7, rfl, rfl, hinv7⟩
    refine Ze (Ze (Zb (ym rfl rfl (Zg (Zi rfl Tryd.f31' rfl (by decide) rfl) rfl (Zg (Zl rfl Tryd.k29 rfl rfl rfl (vs := [_]) rfl rfl rfl) rfl (Zg (Zx rfl rfl Tryd.s29 rfl) rfl (Zg (Zav rfl rfl rfl) rfl (Zf (ρ' := [(2, _), (3, _), (5, _), (6, _), (7, _), (34, _)]) ⟨rfl, rfl, rfl, rfl, rfl, rfl, trivial⟩ ?_))))))))
    refine Zd ?_
    refine Zw rfl (fun hb7 => ?_) (fun hb7 => ?_)
    ·
     have h7 := of_decide_eq_true hb7
     obtain ⟨Y, hY⟩ : ∃ t, b[j]? = some t := ⟨_, List.getElem?_eq_getElem (by omega)⟩
     have hmo := hle3.trans hle7
     have hXs : BlkS u' (.slice (if cA = x then aA else aA.map (·.add (x * 11))) (x + 1 - x) (cA - x)) [X] := by
      refine ⟨_, ⟨_, _, by rw [show ([X] : List Blk).length = x + 1 - x by simp], ?_⟩, BlksC.one ((hcA.mono hmo).get x X hX)⟩
      have := (hA.mono hmo).mid (i := x) (j := x + 1) (by omega) (by omega)
      rw [show x + 1 - x = 1 by omega] at this
      exact this
     have hYs : BlkS u' (.slice (if cB = j then aB else aB.map (·.add (j * 11))) (j + 1 - j) (cB - j)) [Y] := by
      refine ⟨_, ⟨_, _, by rw [show ([Y] : List Blk).length = j + 1 - j by simp], ?_⟩, BlksC.one ((hcB.mono hmo).get j Y hY)⟩
      have := (hB.mono hmo).mid (i := j) (j := j + 1) (by omega) (by omega)
      rw [show j + 1 - j = 1 by omega] at this
      exact this
     have hcapA := hA.2.1
     have hcapB := hB.2.1
     refine Zv (Zd (Ze (Zq ?_)))
     refine Zbb Tryd.mixed rfl [(2, _), (3, _), (15, _)] ⟨rfl, rfl, rfl, trivial⟩ ?_
     refine Zak 0 rfl (by kernel_rfl) (Zc (Za (Za (Zc (Zc (Za (Za (Zc (Za (Zn)))))))))) (Zae rfl rfl) rfl (Zak 1 rfl (by kernel_rfl) (Zc (Za (Za (Zc (Zc (Za (Za (Zc (Za (Zn)))))))))) (Zae rfl rfl) rfl ?_)
     refine Zak 2 rfl (by kernel_rfl) (Zc (Za (Za (Zc (Zc (Za (Za (Zc (Za (Zn)))))))))) (Zas 15 rfl Tryd.s62 rfl rfl rfl (j := x) (by first | rfl | omega) (by omega)) rfl ?_
     refine Zak 3 rfl (by kernel_rfl) (Zc (Za (Za (Zc (Zc (Za (Za (Zc (Za (Zn)))))))))) (Zbk rfl Tryd.k52 rfl rfl rfl ((cF_cut (by omega)).trans (congrArg (fun q => [q]) (if_pos rfl))) rfl rfl (by rw [cF_len]; omega)) rfl ?_
     refine Zak 4 rfl (by kernel_rfl) (Zc (Za (Za (Zc (Zc (Za (Za (Zc (Za (Zn)))))))))) (Zae rfl rfl) rfl ?_
     refine Zak 5 rfl (by kernel_rfl) (Zc (Za (Za (Zc (Zc (Za (Za (Zc (Za (Zn)))))))))) (Zi rfl Tryd.f31' rfl (by decide) rfl) rfl ?_
     refine Zak 6 rfl (by kernel_rfl) (Zc (Za (Za (Zc (Zc (Za (Za (Zc (Za (Zn)))))))))) (Zl rfl Tryd.k29 rfl rfl rfl (vs := [_]) rfl rfl rfl) rfl ?_
     refine Zak 7 rfl (by kernel_rfl) (Zc (Za (Za (Zc (Zc (Za (Za (Zc (Za (Zn)))))))))) (Zae rfl rfl) rfl (Zak 8 rfl (by kernel_rfl) (Zc (Za (Za (Zc (Zc (Za (Za (Zc (Za (Zn)))))))))) (Zae rfl rfl) rfl ?_)
     refine Zak 9 rfl (by kernel_rfl) (Zc (Za (Za (Zc (Zc (Za (Za (Zc (Za (Zn)))))))))) (Zap rfl rfl rfl (Zk (by omega))) rfl ?_
     refine Zak 10 rfl (by kernel_rfl) (Zc (Za (Za (Zc (Zc (Za (Za (Zc (Za (Zn)))))))))) (y_slice_lh (i := x) (j := x + 1) rfl Tryd.s29 rfl rfl rfl rfl (by omega) (by omega) (by omega)) rfl ?_
     refine Zak 11 rfl (by kernel_rfl) (Zc (Za (Za (Zc (Zc (Za (Za (Zc (Za (Zn)))))))))) (Zi rfl Tryd.f31' rfl (by decide) rfl) rfl ?_
     refine Zak 12 rfl (by kernel_rfl) (Zc (Za (Za (Zc (Zc (Za (Za (Zc (Za (Zn)))))))))) (Zl rfl Tryd.k29 rfl rfl rfl (vs := [_]) rfl rfl rfl) rfl ?_
     refine Zak 13 rfl (by kernel_rfl) (Zc (Za (Za (Zc (Zc (Za (Za (Zc (Za (Zn)))))))))) (Zae rfl rfl) rfl (Zak 14 rfl (by kernel_rfl) (Zc (Za (Za (Zc (Zc (Za (Za (Zc (Za (Zn)))))))))) (Zae rfl rfl) rfl ?_)
     refine Zak 15 rfl (by kernel_rfl) (Zc (Za (Za (Zc (Zc (Za (Za (Zc (Za (Zn)))))))))) (Zap rfl rfl rfl (Zk (by omega))) rfl ?_
     refine Zak 16 rfl (by kernel_rfl) (Zc (Za (Za (Zc (Zc (Za (Za (Zc (Za (Zn)))))))))) (y_slice_lh (i := j) (j := j + 1) rfl Tryd.s29 rfl rfl rfl rfl (by omega) (by omega) (by omega)) rfl ?_
     refine Zbi (i := 17) rfl rfl (by kernel_rfl) ?_
     refine Zac (caps := []) ⟨rfl, rfl, rfl, trivial⟩ rfl rfl Tryd.c34 rfl (FnP.mono (sameBlocks_dec (szB [X]) _ _ [X] [Y] (Nat.le_refl _) (by simp) u' hXs hYs) ?_)
     rintro v u1 hle1 ⟨e, rfl, he⟩
     refine Zak 18 rfl (by kernel_rfl) (Zc (Za (Za (Zc (Zc (Za (Za (Zc (Za (Zn)))))))))) (Zas 28 rfl Tryd.s52 rfl rfl rfl (j := j) (by first | rfl | omega) (by omega)) rfl ?_
     refine Zbi (i := 19) rfl rfl (by kernel_rfl) ?_
     refine Zbe ⟨rfl, rfl, rfl, trivial⟩ rfl Tryd.k4 rfl rfl rfl (vs := [_]) rfl rfl (by first | rfl | assumption | simp [Value.oneCell', str]) (by first | omega | (rw [cF_len]; omega) | simp) (by first | exact cF_set (by omega) | rfl) ?_
     rw [rowQ_put (by rw [hsame]; exact blk_same hX hY he)]
     refine Zbn (by kernel_rfl) (ρ' := [(2, _), (3, _), (5, _), (6, _), (7, _)]) ⟨rfl, rfl, rfl, rfl, rfl, trivial⟩ ?_
     refine Zah (Zd (Zb (ym rfl rfl (Zg (Zap rfl rfl rfl (Zk (by omega))) rfl ?_))))
     refine ya rfl rfl (Zf (ρ' := [(2, _), (3, _), (5, _), (6, _), (7, _)]) ⟨rfl, rfl, rfl, rfl, rfl, trivial⟩ ?_)
     refine Zab ?_
     refine ⟨mj - 1, [(2, _), (3, _), (5, _), (6, _), (7, _)], [(2, _), (3, _), (15, _), (28, _)], by omega, ⟨rfl, rfl, rfl, rfl, rfl, trivial⟩, ⟨rfl, rfl, rfl, rfl, trivial⟩, j + 1, by omega, hle7, (by first | rfl | simp), (by first | rfl | (simp only [List.cons.injEq, Prod.mk.injEq, SV.v.injEq, Value.int.injEq, true_and, and_true]; omega) | simp), ?_⟩
     trivial
    ·
     have h7 := of_decide_eq_false hb7
     rw [show j = m by omega, rowQ_full]
     refine Zan ?_
     refine Zh (Zh ?_)
     refine Zu ?_
     refine Zah (Zd (Zb ?_))
     refine Zbj 28 rfl ?_
     intro u21 hle21 hs21
     refine ym rfl rfl (Zg (Zap rfl rfl rfl (Zk (by omega))) rfl ?_)
     refine ya rfl rfl (Zf (ρ' := [(2, _), (3, _), (5, _), (6, _)]) ⟨rfl, rfl, rfl, rfl, trivial⟩ ?_)
     refine Zab ?_
     refine ⟨mx - 1, [(2, _), (3, _), (5, _), (6, _)], [(2, _), (3, _), (15, _)], by omega, ⟨rfl, rfl, rfl, rfl, trivial⟩, ⟨rfl, rfl, rfl, trivial⟩, x + 1, by omega, (hle3.trans (hle7.trans hle21)), fun k => if k = x then .slice ad28 m m else R k, (by first | rfl | simp), (by first | rfl | (simp only [List.cons.injEq, Prod.mk.injEq, SV.v.injEq, Value.int.injEq, true_and, and_true]; omega) | simp), ?_⟩
     intro k hk
     by_cases e : k = x
     ·
      subst e
      simp only [if_true]
      exact hs21
     ·
      simp only [if_neg e]
      exact (hR k (by omega)).mono (hle7.trans hle21)
  ·
   have h3 := of_decide_eq_false hb3
   refine Zan ?_
   refine Zh (Zh ?_)
   refine Zu ?_
   refine Zd (Ze (Zb (ym rfl rfl (Zg (Zi rfl Tryd.f31' rfl (by decide) rfl) rfl (Zg (Zl rfl Tryd.k29 rfl rfl rfl (vs := [_]) rfl rfl rfl) rfl (Zg (Zx rfl rfl Tryd.s29 rfl) rfl (Zg (Zi rfl Tryd.f31' rfl (by decide) rfl) rfl ?_)))))))
   refine Zg (Zl rfl Tryd.k29 rfl rfl rfl (vs := [_]) rfl rfl rfl) rfl (Zg (Zx rfl rfl Tryd.s29 rfl) rfl ?_)
   refine Zbj 15 rfl ?_
   intro u10 hle10 hs10
   refine Zt rfl rfl ?_
   refine Zba (caps := []) trivial rfl rfl Tryd.c31 rfl (FnP.mono (steps_fn same n m hn hm _ u10 ⟨_, _, _, rfl, slC_of hs10, fun k hk ↦ ⟨_, cF_get hk, (hR k (by omega)).mono hle10⟩⟩) ?_)
   rintro v uT hle0 hX hleT
   have hmoT := hle3.trans (hle10.trans hleT)
   obtain ⟨l, hl⟩ : ∃ l, l = textSteps same n m := ⟨_, rfl⟩
   have hok : ∀ c ∈ l, okC n m c := by rw [hl]; exact textSteps_ok _ n m
   have hll : l.length ≤ 62 := by
    have := textSteps_counts same n m
    rw [hl]; omega
   rw [← hl] at hX ⊢
   obtain ⟨aX, cX, rfl, hX⟩ := hX
   refine ya rfl rfl (Zf (ρ' := [(2, _), (3, _), (8, _)]) ⟨rfl, rfl, rfl, trivial⟩ ?_)
   refine Zd (Ze (Zb (ya rfl rfl ?_)))
   refine Zbv 9 509 51 3 rfl rfl rfl ?_
   refine Zf (ρ' := [(2, _), (3, _), (8, _), (9, _)]) ⟨rfl, rfl, rfl, rfl, trivial⟩ ?_
   refine Zd (Ze (Ze (Zb (ya rfl rfl (Zf (ρ' := [(2, _), (3, _), (8, _), (9, _), (10, _)]) ⟨rfl, rfl, rfl, rfl, rfl, trivial⟩ ?_)))))
   refine Zd (Zq ?_)
   refine Zaq (fun m_0 ρ σ u' => ∃ z : Nat, z + m_0 = l.length ∧ VLe uT u' ∧ σ = [(2, (none, .box [wa, .slice aA n cA])), (3, (none, .box [wb, .slice aB m cB])), (509, (none, .row 51 3 (mrgL (kAt a) (kAt b) (l.take z)).length (chgsC (mrgL (kAt a) (kAt b) (l.take z)))))] ∧ ρ = [(2, .p 2 0), (3, .p 3 0), (8, .v (.slice aX l.length cX)), (9, .s 509), (10, .v (.int .i64 (z : Nat)))] ∧ (True)) (l.length) ?_ ?_
   ·
    refine ⟨[(2, _), (3, _), (8, _), (9, _), (10, _)], [(2, _), (3, _), (509, _)], ⟨rfl, rfl, rfl, rfl, rfl, trivial⟩, ⟨rfl, rfl, rfl, trivial⟩, 0, by omega, VLe.refl _, (by first | rfl | simp), (by first | rfl | (simp only [List.cons.injEq, Prod.mk.injEq, SV.v.injEq, Value.int.injEq, true_and, and_true]; omega) | simp), ?_⟩
    trivial
   ·
    rintro mz ρ σ u' ⟨z, hi13, hle13, rfl, rfl, hinv13⟩
    refine Ze (Ze (Zb (ym rfl rfl (ym rfl rfl (Zg (Zx rfl rfl Tryd.s26 rfl) rfl (Zg (Zav rfl rfl rfl) rfl (Zf (ρ' := [(2, _), (3, _), (8, _), (9, _), (10, _), (67, _)]) ⟨rfl, rfl, rfl, rfl, rfl, rfl, trivial⟩ ?_)))))))
    refine Zd ?_
    refine Zw rfl (fun hb13 => ?_) (fun hb13 => ?_)
    ·
     have h13 := of_decide_eq_true hb13
     obtain ⟨⟨kd, sr, ds⟩, hc⟩ : ∃ c, l[z]? = some c := ⟨_, List.getElem?_eq_getElem (by omega)⟩
     have hcut : cut (chgsC l) (z * 3) 3 = [.int .i64 kd, .int .i64 sr, .int .i64 ds] := chgsC_cut hc
     have hTk := mrgL_take (kAt a) (kAt b) hc
     have hLk := mrgL_ok (ka := kAt a) (kb := kAt b) hok z
     have hLn := mrgL_len (kAt a) (kAt b) l z
     have hcok := hok _ (List.mem_of_getElem? hc)
     obtain ⟨L, hL⟩ : ∃ L, L = mrgL (kAt a) (kAt b) (l.take z) := ⟨_, rfl⟩
     rw [← hL] at hTk hLk hLn ⊢
     obtain ⟨⟨pk, ps, pd⟩, hp⟩ : ∃ p, lastC L = p := ⟨_, rfl⟩
     have hpok : 0 < L.length → okC n m ⟨pk, ps, pd⟩ := fun h => by rw [← hp]; exact hLk _ (List.mem_of_getElem? (last_get h))
     have hXu := hX.mono hle13
     have hmo := hmoT.trans hle13
     refine Zv (Zd (Ze (Zq (Ze (Zb (ym rfl rfl (Zg (y_len_s rfl rfl Tryd.s26 rfl rfl) rfl ?_)))))))
     refine ya rfl rfl (Zf (ρ' := [(2, _), (3, _), (8, _), (9, _), (10, _), (11, _)]) ⟨rfl, rfl, rfl, rfl, rfl, rfl, trivial⟩ ?_)
     refine Zd (Ze ?_)
     refine Zbd 114 (decide (0 < L.length ∧ pk = 2 ∧ kd = 3 ∧ kAt a ps = kAt b ds)) (ρk := [(2, _), (3, _), (8, _), (9, _), (10, _), (11, _)]) ⟨rfl, rfl, rfl, rfl, rfl, rfl, trivial⟩ ?_ ?_
     ·
      refine Zbb Tryd.mixed rfl [(2, _), (3, _), (509, _)] ⟨rfl, rfl, rfl, trivial⟩ ?_
      refine Zak 0 rfl (by kernel_rfl) (Zj) (Zae rfl rfl) rfl ?_
      refine Zak 1 rfl (by kernel_rfl) (Zj) (y_gtr rfl rfl rfl) rfl ?_
      refine Zak 2 rfl (by kernel_rfl) (Zj) (Zae rfl rfl) rfl ?_
      refine ra_case 74 rfl (fun hg16_2 => ?_) (fun hg16_2 => ?_)
      ·
       refine Zaw 3 rfl rfl rfl (by kernel_rfl) (Zj) (Zae rfl rfl) rfl (Zaw 4 rfl rfl rfl (by kernel_rfl) (Zj) (Zae rfl rfl) rfl ?_)
       have hpos : 0 < L.length := by have := of_decide_eq_true hg16_2; omega
       have hcl := chgs_last hpos hp
       have hpok := hpok hpos
       have hc0 : cut (chgsC L) ((L.length - 1) * 3 + 0) 1 = [.int .i64 pk] := cut_sub hcl (by omega)
       have hc1 : cut (chgsC L) ((L.length - 1) * 3 + 1) 1 = [.int .i64 ps] := cut_sub hcl (by omega)
       refine Zaw 5 rfl rfl rfl (by kernel_rfl) (Zj) (y_sub rfl rfl rfl (Zk (by omega))) rfl ?_
       refine Zaw 6 rfl rfl rfl (by kernel_rfl) (Zj) (y_index_s rfl Tryd.s26 rfl rfl rfl (j := L.length - 1) (by first | rfl | omega) (by omega)) rfl ?_
       refine Zaw 7 rfl rfl rfl (by kernel_rfl) (Zj) (Zi rfl Tryd.f51' rfl (by decide) rfl) rfl ?_
       refine Zaw 8 rfl rfl rfl (by kernel_rfl) (Zj) (y_load_s rfl Tryd.k3 rfl rfl rfl hc0 rfl rfl (by rw [chgsC_len]; omega)) rfl ?_
       refine Zaw 9 rfl rfl rfl (by kernel_rfl) (Zj) (Zbl rfl rfl rfl) rfl ?_
       refine Zak 10 rfl (by kernel_rfl) (Zj) (Zo rfl rfl rfl) rfl ?_
       refine Zak 11 rfl (by kernel_rfl) (Zj) (Zae rfl rfl) rfl ?_
       refine ra_case 83 rfl (fun hg16_11 => ?_) (fun hg16_11 => ?_)
       ·
        refine Zaw 12 rfl rfl rfl (by kernel_rfl) (Zj) (Zae rfl rfl) rfl (Zaw 13 rfl rfl rfl (by kernel_rfl) (Zj) (Zae rfl rfl) rfl ?_)
        refine Zaw 14 rfl rfl rfl (by kernel_rfl) (Zj) (Zs rfl Tryd.s26 rfl rfl hXu rfl (by omega)) rfl ?_
        refine Zaw 15 rfl rfl rfl (by kernel_rfl) (Zj) (Zbc rfl Tryd.f51' rfl (by decide) rfl) rfl ?_
        refine Zaw 16 rfl rfl rfl (by kernel_rfl) (Zj) (Zr rfl Tryd.k3 rfl hXu (by omega) hcut (vs := [_]) rfl rfl rfl rfl) rfl ?_
        refine Zaw 17 rfl rfl rfl (by kernel_rfl) (Zj) (Zbl rfl rfl rfl) rfl ?_
        refine Zak 18 rfl (by kernel_rfl) (Zj) (Zo rfl rfl rfl) rfl ?_
        refine Zak 19 rfl (by kernel_rfl) (Zj) (Zae rfl rfl) rfl ?_
        refine ra_case 91 rfl (fun hg16_19 => ?_) (fun hg16_19 => ?_)
        ·
         refine Zaw 20 rfl rfl rfl (by kernel_rfl) (Zj) (Zi rfl Tryd.f31' rfl (by decide) rfl) rfl ?_
         have hq1 := of_decide_eq_true hg16_11
         have hq2 := of_decide_eq_true hg16_19
         obtain ⟨jA, xA, hjA, hjA2, hcutA, hxA⟩ := blk_of (hcA.mono hmo) han (hpok.1 hq1).1 (hpok.1 hq1).2.1
         obtain ⟨jB, xB, hjB, hjB2, hcutB, hxB⟩ := blk_of (hcB.mono hmo) hbm (hcok.2 hq2).1 (hcok.2 hq2).2
         refine Zaw 21 rfl rfl rfl (by kernel_rfl) (Zj) (Zl rfl Tryd.k29 rfl rfl rfl (vs := [_]) rfl rfl rfl) rfl ?_
         refine Zaw 22 rfl rfl rfl (by kernel_rfl) (Zj) (Zae rfl rfl) rfl (Zaw 23 rfl rfl rfl (by kernel_rfl) (Zj) (Zae rfl rfl) rfl ?_)
         refine Zaw 24 rfl rfl rfl (by kernel_rfl) (Zj) (y_sub rfl rfl rfl (Zk (by omega))) rfl ?_
         refine Zaw 25 rfl rfl rfl (by kernel_rfl) (Zj) (y_index_s rfl Tryd.s26 rfl rfl rfl (j := L.length - 1) (by first | rfl | omega) (by omega)) rfl ?_
         refine Zaw 26 rfl rfl rfl (by kernel_rfl) (Zj) (Zi rfl Tryd.f51' rfl (by decide) rfl) rfl ?_
         refine Zaw 27 rfl rfl rfl (by kernel_rfl) (Zj) (y_load_s rfl Tryd.k3 rfl rfl rfl hc1 rfl rfl (by rw [chgsC_len]; omega)) rfl ?_
         refine Zaw 28 rfl rfl rfl (by kernel_rfl) (Zj) (Zs rfl Tryd.s29 rfl rfl (hA.mono hmo) (j := jA) hjA (by omega)) rfl ?_
         refine Zaw 29 rfl rfl rfl (by kernel_rfl) (Zj) (Zbc rfl Tryd.f39' rfl (by decide) rfl) rfl ?_
         refine Zaw 30 rfl rfl rfl (by kernel_rfl) (Zj) (Zr rfl Tryd.k3 rfl (hA.mono hmo) (by omega) hcutA (vs := [_]) rfl rfl rfl rfl) rfl ?_
         refine Zaw 31 rfl rfl rfl (by kernel_rfl) (Zj) (Zi rfl Tryd.f31' rfl (by decide) rfl) rfl ?_
         refine Zaw 32 rfl rfl rfl (by kernel_rfl) (Zj) (Zl rfl Tryd.k29 rfl rfl rfl (vs := [_]) rfl rfl rfl) rfl ?_
         refine Zaw 33 rfl rfl rfl (by kernel_rfl) (Zj) (Zae rfl rfl) rfl (Zaw 34 rfl rfl rfl (by kernel_rfl) (Zj) (Zae rfl rfl) rfl ?_)
         refine Zaw 35 rfl rfl rfl (by kernel_rfl) (Zj) (Zs rfl Tryd.s26 rfl rfl hXu rfl (by omega)) rfl ?_
         refine Zaw 36 rfl rfl rfl (by kernel_rfl) (Zj) (Zbc rfl Tryd.f51' rfl (by decide) rfl) rfl ?_
         refine Zaw 37 rfl rfl rfl (by kernel_rfl) (Zj) (Zr rfl Tryd.k3 rfl hXu (by omega) hcut (vs := [_]) rfl rfl rfl rfl) rfl ?_
         refine Zaw 38 rfl rfl rfl (by kernel_rfl) (Zj) (Zs rfl Tryd.s29 rfl rfl (hB.mono hmo) (j := jB) hjB (by omega)) rfl ?_
         refine Zaw 39 rfl rfl rfl (by kernel_rfl) (Zj) (Zbc rfl Tryd.f39' rfl (by decide) rfl) rfl ?_
         refine Zaw 40 rfl rfl rfl (by kernel_rfl) (Zj) (Zr rfl Tryd.k3 rfl (hB.mono hmo) (by omega) hcutB (vs := [_]) rfl rfl rfl rfl) rfl ?_
         refine Zaw 41 rfl rfl rfl (by kernel_rfl) (Zj) (Zbl rfl rfl rfl) rfl ?_
         refine Zak 42 rfl (by kernel_rfl) (Zj) (Zo rfl rfl rfl) rfl ?_
         exact Zbq (by kernel_rfl) rfl ⟨rfl, rfl, rfl, rfl, rfl, rfl, trivial⟩ (by
         first
         | (refine (decide_eq_false fun h => ?_).symm; have := of_decide_eq_false hg16_2; omega)
         | (refine (decide_eq_false fun h => ?_).symm; exact of_decide_eq_false hg16_11 h.2.1)
         | (refine (decide_eq_false fun h => ?_).symm; exact of_decide_eq_false hg16_19 h.2.2.1)
         | exact decide_eq_decide.2 ⟨fun h => ⟨by have := of_decide_eq_true hg16_2; omega, of_decide_eq_true hg16_11, of_decide_eq_true hg16_19, h⟩, fun h => h.2.2.2⟩)
        ·
         refine Zag 20 rfl rfl rfl rfl (by kernel_rfl) (Zj) rfl (Zag 21 rfl rfl rfl rfl (by kernel_rfl) (Zj) rfl (Zag 22 rfl rfl rfl rfl (by kernel_rfl) (Zj) rfl (Zag 23 rfl rfl rfl rfl (by kernel_rfl) (Zj) rfl (Zag 24 rfl rfl rfl rfl (by kernel_rfl) (Zj) rfl (Zag 25 rfl rfl rfl rfl (by kernel_rfl) (Zj) rfl (Zag 26 rfl rfl rfl rfl (by kernel_rfl) (Zj) rfl (Zag 27 rfl rfl rfl rfl (by kernel_rfl) (Zj) rfl ?_)))))))
         refine Zag 28 rfl rfl rfl rfl (by kernel_rfl) (Zj) rfl (Zag 29 rfl rfl rfl rfl (by kernel_rfl) (Zj) rfl (Zag 30 rfl rfl rfl rfl (by kernel_rfl) (Zj) rfl (Zag 31 rfl rfl rfl rfl (by kernel_rfl) (Zj) rfl (Zag 32 rfl rfl rfl rfl (by kernel_rfl) (Zj) rfl (Zag 33 rfl rfl rfl rfl (by kernel_rfl) (Zj) rfl (Zag 34 rfl rfl rfl rfl (by kernel_rfl) (Zj) rfl (Zag 35 rfl rfl rfl rfl (by kernel_rfl) (Zj) rfl ?_)))))))
         refine Zag 36 rfl rfl rfl rfl (by kernel_rfl) (Zj) rfl (Zag 37 rfl rfl rfl rfl (by kernel_rfl) (Zj) rfl (Zag 38 rfl rfl rfl rfl (by kernel_rfl) (Zj) rfl (Zag 39 rfl rfl rfl rfl (by kernel_rfl) (Zj) rfl (Zag 40 rfl rfl rfl rfl (by kernel_rfl) (Zj) rfl (Zag 41 rfl rfl rfl rfl (by kernel_rfl) (Zj) rfl ?_)))))
         refine Zak 42 rfl (by kernel_rfl) (Zj) (Zad rfl rfl rfl) rfl ?_
         exact Zbq (by kernel_rfl) rfl ⟨rfl, rfl, rfl, rfl, rfl, rfl, trivial⟩ (by
         first
         | (refine (decide_eq_false fun h => ?_).symm; have := of_decide_eq_false hg16_2; omega)
         | (refine (decide_eq_false fun h => ?_).symm; exact of_decide_eq_false hg16_11 h.2.1)
         | (refine (decide_eq_false fun h => ?_).symm; exact of_decide_eq_false hg16_19 h.2.2.1)
         | exact decide_eq_decide.2 ⟨fun h => ⟨by have := of_decide_eq_true hg16_2; omega, of_decide_eq_true hg16_11, of_decide_eq_true hg16_19, h⟩, fun h => h.2.2.2⟩)
       ·
        refine Zag 12 rfl rfl rfl rfl (by kernel_rfl) (Zj) rfl (Zag 13 rfl rfl rfl rfl (by kernel_rfl) (Zj) rfl (Zag 14 rfl rfl rfl rfl (by kernel_rfl) (Zj) rfl (Zag 15 rfl rfl rfl rfl (by kernel_rfl) (Zj) rfl (Zag 16 rfl rfl rfl rfl (by kernel_rfl) (Zj) rfl (Zag 17 rfl rfl rfl rfl (by kernel_rfl) (Zj) rfl ?_)))))
        refine Zak 18 rfl (by kernel_rfl) (Zj) (Zad rfl rfl rfl) rfl ?_
        refine Zak 19 rfl (by kernel_rfl) (Zj) (Zae rfl rfl) rfl (Zag 20 rfl rfl rfl rfl (by kernel_rfl) (Zj) rfl (Zag 21 rfl rfl rfl rfl (by kernel_rfl) (Zj) rfl (Zag 22 rfl rfl rfl rfl (by kernel_rfl) (Zj) rfl (Zag 23 rfl rfl rfl rfl (by kernel_rfl) (Zj) rfl (Zag 24 rfl rfl rfl rfl (by kernel_rfl) (Zj) rfl (Zag 25 rfl rfl rfl rfl (by kernel_rfl) (Zj) rfl (Zag 26 rfl rfl rfl rfl (by kernel_rfl) (Zj) rfl ?_)))))))
        refine Zag 27 rfl rfl rfl rfl (by kernel_rfl) (Zj) rfl (Zag 28 rfl rfl rfl rfl (by kernel_rfl) (Zj) rfl (Zag 29 rfl rfl rfl rfl (by kernel_rfl) (Zj) rfl (Zag 30 rfl rfl rfl rfl (by kernel_rfl) (Zj) rfl (Zag 31 rfl rfl rfl rfl (by kernel_rfl) (Zj) rfl (Zag 32 rfl rfl rfl rfl (by kernel_rfl) (Zj) rfl (Zag 33 rfl rfl rfl rfl (by kernel_rfl) (Zj) rfl (Zag 34 rfl rfl rfl rfl (by kernel_rfl) (Zj) rfl ?_)))))))
        refine Zag 35 rfl rfl rfl rfl (by kernel_rfl) (Zj) rfl (Zag 36 rfl rfl rfl rfl (by kernel_rfl) (Zj) rfl (Zag 37 rfl rfl rfl rfl (by kernel_rfl) (Zj) rfl (Zag 38 rfl rfl rfl rfl (by kernel_rfl) (Zj) rfl (Zag 39 rfl rfl rfl rfl (by kernel_rfl) (Zj) rfl (Zag 40 rfl rfl rfl rfl (by kernel_rfl) (Zj) rfl (Zag 41 rfl rfl rfl rfl (by kernel_rfl) (Zj) rfl ?_))))))
        refine Zak 42 rfl (by kernel_rfl) (Zj) (Zad rfl rfl rfl) rfl ?_
        exact Zbq (by kernel_rfl) rfl ⟨rfl, rfl, rfl, rfl, rfl, rfl, trivial⟩ (by
        first
        | (refine (decide_eq_false fun h => ?_).symm; have := of_decide_eq_false hg16_2; omega)
        | (refine (decide_eq_false fun h => ?_).symm; exact of_decide_eq_false hg16_11 h.2.1)
        | (refine (decide_eq_false fun h => ?_).symm; exact of_decide_eq_false hg16_19 h.2.2.1)
        | exact decide_eq_decide.2 ⟨fun h => ⟨by have := of_decide_eq_true hg16_2; omega, of_decide_eq_true hg16_11, of_decide_eq_true hg16_19, h⟩, fun h => h.2.2.2⟩)
      ·
       refine Zag 3 rfl rfl rfl rfl (by kernel_rfl) (Zj) rfl (Zag 4 rfl rfl rfl rfl (by kernel_rfl) (Zj) rfl (Zag 5 rfl rfl rfl rfl (by kernel_rfl) (Zj) rfl (Zag 6 rfl rfl rfl rfl (by kernel_rfl) (Zj) rfl (Zag 7 rfl rfl rfl rfl (by kernel_rfl) (Zj) rfl (Zag 8 rfl rfl rfl rfl (by kernel_rfl) (Zj) rfl (Zag 9 rfl rfl rfl rfl (by kernel_rfl) (Zj) rfl ?_))))))
       refine Zak 10 rfl (by kernel_rfl) (Zj) (Zad rfl rfl rfl) rfl ?_
       refine Zak 11 rfl (by kernel_rfl) (Zj) (Zae rfl rfl) rfl (Zag 12 rfl rfl rfl rfl (by kernel_rfl) (Zj) rfl (Zag 13 rfl rfl rfl rfl (by kernel_rfl) (Zj) rfl (Zag 14 rfl rfl rfl rfl (by kernel_rfl) (Zj) rfl (Zag 15 rfl rfl rfl rfl (by kernel_rfl) (Zj) rfl (Zag 16 rfl rfl rfl rfl (by kernel_rfl) (Zj) rfl (Zag 17 rfl rfl rfl rfl (by kernel_rfl) (Zj) rfl ?_))))))
       refine Zak 18 rfl (by kernel_rfl) (Zj) (Zad rfl rfl rfl) rfl ?_
       refine Zak 19 rfl (by kernel_rfl) (Zj) (Zae rfl rfl) rfl (Zag 20 rfl rfl rfl rfl (by kernel_rfl) (Zj) rfl (Zag 21 rfl rfl rfl rfl (by kernel_rfl) (Zj) rfl (Zag 22 rfl rfl rfl rfl (by kernel_rfl) (Zj) rfl (Zag 23 rfl rfl rfl rfl (by kernel_rfl) (Zj) rfl (Zag 24 rfl rfl rfl rfl (by kernel_rfl) (Zj) rfl (Zag 25 rfl rfl rfl rfl (by kernel_rfl) (Zj) rfl (Zag 26 rfl rfl rfl rfl (by kernel_rfl) (Zj) rfl ?_)))))))
       refine Zag 27 rfl rfl rfl rfl (by kernel_rfl) (Zj) rfl (Zag 28 rfl rfl rfl rfl (by kernel_rfl) (Zj) rfl (Zag 29 rfl rfl rfl rfl (by kernel_rfl) (Zj) rfl (Zag 30 rfl rfl rfl rfl (by kernel_rfl) (Zj) rfl (Zag 31 rfl rfl rfl rfl (by kernel_rfl) (Zj) rfl (Zag 32 rfl rfl rfl rfl (by kernel_rfl) (Zj) rfl (Zag 33 rfl rfl rfl rfl (by kernel_rfl) (Zj) rfl (Zag 34 rfl rfl rfl rfl (by kernel_rfl) (Zj) rfl ?_)))))))
       refine Zag 35 rfl rfl rfl rfl (by kernel_rfl) (Zj) rfl (Zag 36 rfl rfl rfl rfl (by kernel_rfl) (Zj) rfl (Zag 37 rfl rfl rfl rfl (by kernel_rfl) (Zj) rfl (Zag 38 rfl rfl rfl rfl (by kernel_rfl) (Zj) rfl (Zag 39 rfl rfl rfl rfl (by kernel_rfl) (Zj) rfl (Zag 40 rfl rfl rfl rfl (by kernel_rfl) (Zj) rfl (Zag 41 rfl rfl rfl rfl (by kernel_rfl) (Zj) rfl ?_))))))
       refine Zak 42 rfl (by kernel_rfl) (Zj) (Zad rfl rfl rfl) rfl ?_
       exact Zbq (by kernel_rfl) rfl ⟨rfl, rfl, rfl, rfl, rfl, rfl, trivial⟩ (by
       first
       | (refine (decide_eq_false fun h => ?_).symm; have := of_decide_eq_false hg16_2; omega)
       | (refine (decide_eq_false fun h => ?_).symm; exact of_decide_eq_false hg16_11 h.2.1)
       | (refine (decide_eq_false fun h => ?_).symm; exact of_decide_eq_false hg16_19 h.2.2.1)
       | exact decide_eq_decide.2 ⟨fun h => ⟨by have := of_decide_eq_true hg16_2; omega, of_decide_eq_true hg16_11, of_decide_eq_true hg16_19, h⟩, fun h => h.2.2.2⟩)
     refine Zd ?_
     refine Zw rfl (fun hb16 => ?_) (fun hb16 => ?_)
     ·
      have h16 := of_decide_eq_true hb16
      have hpos := h16.1
      have hcl := chgs_last hpos hp
      have hc1 : cut (chgsC L) ((L.length - 1) * 3 + 1) 1 = [.int .i64 ps] := cut_sub hcl (by omega)
      have hM : mrg (kAt a) (kAt b) L ⟨kd, sr, ds⟩ = L.dropLast ++ [⟨4, ps, ds⟩] := by
       have := mrg_yes (ka := kAt a) (kb := kAt b) (L := L) (c := ⟨kd, sr, ds⟩) hpos (by rw [hp]; exact h16.2)
       rw [this, hp]
      have hset : setAt (chgsC L) ((L.length - 1) * 3) [.int .i64 4, .int .i64 ps, .int .i64 ds] = chgsC (L.dropLast ++ [⟨4, ps, ds⟩]) := set_last hpos ⟨4, ps, ds⟩
      refine Zbb Tryd.mixed rfl [] trivial ?_
      refine Zak 0 rfl (by kernel_rfl) (Zc (Za (Za (Zc (Za (Zn)))))) (Zae rfl rfl) rfl (Zak 1 rfl (by kernel_rfl) (Zc (Za (Za (Zc (Za (Zn)))))) (Zae rfl rfl) rfl ?_)
      refine Zak 2 rfl (by kernel_rfl) (Zc (Za (Za (Zc (Za (Zn)))))) (y_sub rfl rfl rfl (Zk (by omega))) rfl ?_
      refine Zak 3 rfl (by kernel_rfl) (Zc (Za (Za (Zc (Za (Zn)))))) (Zae rfl rfl) rfl (Zak 4 rfl (by kernel_rfl) (Zc (Za (Za (Zc (Za (Zn)))))) (Zae rfl rfl) rfl ?_)
      refine Zak 5 rfl (by kernel_rfl) (Zc (Za (Za (Zc (Za (Zn)))))) (y_sub rfl rfl rfl (Zk (by omega))) rfl ?_
      refine Zak 6 rfl (by kernel_rfl) (Zc (Za (Za (Zc (Za (Zn)))))) (y_index_s rfl Tryd.s26 rfl rfl rfl (j := L.length - 1) (by first | rfl | omega) (by omega)) rfl ?_
      refine Zak 7 rfl (by kernel_rfl) (Zc (Za (Za (Zc (Za (Zn)))))) (Zi rfl Tryd.f51' rfl (by decide) rfl) rfl ?_
      refine Zak 9 rfl (by kernel_rfl) (Zc (Za (Za (Zc (Za (Zn)))))) (Zae rfl rfl) rfl (Zak 10 rfl (by kernel_rfl) (Zc (Za (Za (Zc (Za (Zn)))))) (Zae rfl rfl) rfl ?_)
      refine Zak 11 rfl (by kernel_rfl) (Zc (Za (Za (Zc (Za (Zn)))))) (Zs rfl Tryd.s26 rfl rfl hXu rfl (by omega)) rfl ?_
      refine Zak 12 rfl (by kernel_rfl) (Zc (Za (Za (Zc (Za (Zn)))))) (Zbc rfl Tryd.f51' rfl (by decide) rfl) rfl ?_
      refine Zak 13 rfl (by kernel_rfl) (Zc (Za (Za (Zc (Za (Zn)))))) (Zr rfl Tryd.k3 rfl hXu (by omega) hcut (vs := [_]) rfl rfl rfl rfl) rfl ?_
      refine Zbi (i := 8) rfl rfl (by kernel_rfl) ?_
      refine do_y (y_load_s rfl Tryd.k3 rfl rfl rfl hc1 rfl rfl (by rw [chgsC_len]; omega)) rfl ?_
      refine Zak 14 rfl (by kernel_rfl) (Zc (Za (Za (Zc (Za (Zn)))))) (Zbh rfl Tryd.f51' Tryd.z51 (ps := [(_, _), (_, _), (_, _)]) rfl (vs := [_, _, _]) rfl) rfl ?_
      refine Zak 15 rfl (by kernel_rfl) (Zc (Za (Za (Zc (Za (Zn)))))) (y_index_s rfl Tryd.s26 rfl rfl rfl (j := L.length - 1) (by first | rfl | omega) (by omega)) rfl ?_
      refine Zbi (i := 16) rfl rfl (by kernel_rfl) ?_
      refine do_store_s trivial rfl Tryd.k51 rfl rfl rfl (vs := [_, _, _]) rfl rfl (by first | rfl | assumption | simp [Value.oneCell', str]) (by rw [chgsC_len]; omega) rfl ?_
      rw [hset]
      refine Zbn (by kernel_rfl) (ρ' := [(2, _), (3, _), (8, _), (9, _), (10, _)]) ⟨rfl, rfl, rfl, rfl, rfl, trivial⟩ ?_
      refine Zah (Zd (Zb (ym rfl rfl (Zg (Zap rfl rfl rfl (Zk (by omega))) rfl ?_))))
      refine ya rfl rfl (Zf (ρ' := [(2, _), (3, _), (8, _), (9, _), (10, _)]) ⟨rfl, rfl, rfl, rfl, rfl, trivial⟩ ?_)
      refine Zab ?_
      refine ⟨mz - 1, [(2, _), (3, _), (8, _), (9, _), (10, _)], [(2, _), (3, _), (509, _)], by omega, ⟨rfl, rfl, rfl, rfl, rfl, trivial⟩, ⟨rfl, rfl, rfl, trivial⟩, z + 1, by omega, hle13, (by rw [hTk, hM]; first | (rw [chgsC_app, List.length_append]; rfl) | (rw [drop_len hpos])), (by first | rfl | simp), ?_⟩
      trivial
     ·
      have h16 := of_decide_eq_false hb16
      have hM : mrg (kAt a) (kAt b) L ⟨kd, sr, ds⟩ = L ++ [⟨kd, sr, ds⟩] := mrg_no fun e => by
       rw [hp] at e
       exact h16 e
      refine Zb (ym rfl rfl (ym rfl rfl (ym rfl rfl (Zg (Zs rfl Tryd.s26 rfl rfl hXu rfl (by omega)) rfl (Zg (Zr rfl Tryd.k51 rfl hXu (by omega) hcut (vs := [_, _, _]) rfl rfl rfl rfl) rfl (Zt rfl rfl ?_))))))
      refine Zai trivial Tryd.s26 Tryd.z51 (ps := [(_, _)]) rfl (xs := [_, _, _]) rfl rfl rfl rfl rfl rfl rfl ?_
      refine Zt rfl rfl ?_
      refine Zay trivial rfl rfl Tryd.s26 Tryd.z51 rfl rfl rfl rfl rfl rfl (by first | rfl | assumption | simp [Value.oneCell', str]) (by omega) (by omega) (ρ' := [(2, _), (3, _), (8, _), (10, _)]) ⟨rfl, rfl, rfl, rfl, trivial⟩ rfl rfl rfl ?_
      refine ya rfl rfl ?_
      refine Zbu 137 509 rfl rfl rfl ?_
      refine Zf (ρ' := [(2, _), (3, _), (8, _), (9, _), (10, _)]) ⟨rfl, rfl, rfl, rfl, rfl, trivial⟩ ?_
      refine Zah (Zd (Zb (ym rfl rfl (Zg (Zap rfl rfl rfl (Zk (by omega))) rfl ?_))))
      refine ya rfl rfl (Zf (ρ' := [(2, _), (3, _), (8, _), (9, _), (10, _)]) ⟨rfl, rfl, rfl, rfl, rfl, trivial⟩ ?_)
      refine Zab ?_
      refine ⟨mz - 1, [(2, _), (3, _), (8, _), (9, _), (10, _)], [(2, _), (3, _), (509, _)], by omega, ⟨rfl, rfl, rfl, rfl, rfl, trivial⟩, ⟨rfl, rfl, rfl, trivial⟩, z + 1, by omega, hle13, (by rw [hTk, hM]; first | (rw [chgsC_app, List.length_append]; rfl) | (rw [drop_len hpos])), (by first | rfl | simp), ?_⟩
      trivial
    ·
     have h13 := of_decide_eq_false hb13
     rw [List.take_of_length_le (by omega)]
     refine Zan ?_
     refine Zh (Zh ?_)
     refine Zu ?_
     refine Zd (Ze (Zb (ym rfl rfl ?_)))
     refine Zaz 509 rfl ?_
     intro ad509 cap509 uF hleF hF
     refine ya rfl rfl (Zf (ρ' := [(4, _)]) ⟨rfl, trivial⟩ ?_)
     refine Zd (Zaj (Zbf (.tmp rfl) ?_))
     exact ⟨_, _, rfl, hF⟩
end Go.Proofs.Ytekkhlepbacapaa
namespace Go.Eng
open Go Go.RowKit
theorem y_bool_neq {F : Fx} {ρ : Env} {σ σS : Own} {u uS : View} {o : Oper} {t t' : TypeId} {x y : Operand} {p q : Bool} (ho : o.op = .binOp .neq t x y t') (hx : opv ρ x = some (.v (.bool p))) (hy : opv ρ y = some (.v (.bool q))) (ht : F.P.underlying t = some .bool) : Yld F σS uS ρ σ u o (.v (.bool (!(p == q)))) := by
 refine fun bk hd a w hR => ⟨_, rfl, fun w' _ => ?_⟩
 have h1 : (Op.equal t (.bool p) (.bool q)).run F.P w' = .ok (p == q) w' := by
  unfold Op.equal Op.maxDepth Op.equalIn
  simp [run_underlying ht]
 simp [execOp, ho, hR.op hx, hR.op hy, eqGuard, binOp, h1]
end Go.Eng
namespace Go.Proofs.Ytekkhlepbacapaa
open Go Go.Eng
set_option linter.unusedSimpArgs false
set_option linter.unusedVariables false
set_option maxRecDepth 4000
def attr0 : DAttr := ⟨[], [], []⟩
theorem attrOk0 : AttrOk attr0 := ⟨by decide, ⟨by decide, by simp [attr0]⟩, ⟨by decide, by simp [attr0]⟩⟩
theorem nilSl (u : View) (sz : Nat) : IsSl u (.slice none 0 0) 0 sz [] := ⟨none, 0, rfl, by simp, by decide, by decide, by simp⟩
theorem nilStr (u : View) : StrS u (.slice none 0 0) [] := nilSl u 1
theorem nilPr (u : View) : PrS u (.slice none 0 0) [] := nilSl u 2
theorem nilCi (u : View) : CiS u (.slice none 0 0) [] := nilSl u 4
theorem nilInl (u : View) : InlS u (.slice none 0 0) [] := ⟨[], nilSl u 10, InlsC.nil⟩
theorem nilBlk (u : View) : BlkS u (.slice none 0 0) [] := ⟨[], nilSl u 11, BlksC.nil⟩
theorem intOk_of {k : Int} (h : -1000 ≤ k ∧ k ≤ 1000) : IntOk k := by unfold IntOk; omega
theorem u8_32 {c : UInt8} (h : (c.toNat : Int) = 32) : c = 32 := UInt8.toNat_inj.1 (by show c.toNat = 32; omega)
theorem sp_32 (c : UInt8) : decide ((c.toNat : Int) = 32) = sp c := by
 unfold sp
 exact decide_eq_decide.2 ⟨u8_32, fun h => by rw [h]; rfl⟩
def trm (s : Bs) : Bs := s.drop (lead true s)
theorem trm_cons (c : UInt8) (s : Bs) : trm (c :: s) = if c = 32 then trm s else c :: s := by
 unfold trm
 by_cases h : c = 32
 ·
  have : sp c = true := by simp [sp, h]
  simp only [lead, if_pos this, if_pos h, List.drop_succ_cons]
 ·
  have : sp c ≠ true := by simp [sp, h]
  simp only [lead, if_neg this, if_neg h, List.drop_zero]
theorem trimLeftB_fn (s : Bs) (hs : s.length ≤ 1000000000) (u : View) : FnP Tryd.prog 50 [str s, .int .u8 32] u fun r _ => r = str (trm s) := by
 refine FnP.intro [.tmp 4] Tryd.func50 rfl rfl rfl ?_
 intro w0 D hw0
 refine Ze (Zb (ya rfl rfl (Zf (ρ' := [(0, _), (1, _)]) ⟨rfl, rfl, trivial⟩ ?_)))
 refine Zd (Ze (Zq ?_))
 refine Zaq (fun m_0 ρ σ u' => ∃ i : Nat, i + m_0 = s.length ∧ VLe u u' ∧ σ = [] ∧ ρ = [(0, .v (str (s.drop i))), (1, .v (.int .u8 32))] ∧ (u = u' ∧ trm s = trm (s.drop i))) (s.length) ?_ ?_
 ·
  refine ⟨[(0, _), (1, _)], [], ⟨rfl, rfl, trivial⟩, trivial, 0, by omega, VLe.refl _, (by first | rfl | simp), (by first | rfl | (simp only [List.cons.injEq, Prod.mk.injEq, SV.v.injEq, Value.int.injEq, true_and, and_true]; omega) | simp), ?_⟩
  exact ⟨rfl, by simp⟩
 ·
  rintro m ρ σ u' ⟨i, hi1, hle1, rfl, rfl, ⟨rfl, hinv⟩⟩
  refine Ze (Ze ?_)
  have hdl : (s.drop i).length = s.length - i := List.length_drop
  refine Zbd 13 (decide ((s.drop i).head? = some 32)) (ρk := [(0, _), (1, _)]) ⟨rfl, rfl, trivial⟩ ?_ ?_
  ·
   refine Zb (ym rfl rfl (Zg (Zat rfl rfl Tryd.str9 rfl) rfl (Zg (y_gtr rfl rfl rfl) rfl (ym rfl rfl ?_))))
   rcases Bool.eq_false_or_eq_true (decide ((0 : Int) < ((s.drop i).length : Int))) with hg1_3 | hg1_3
   ·
    simp only [hg1_3]
    refine Zp rfl rfl (ym rfl rfl ?_)
    have hlt : i < s.length := by have := of_decide_eq_true hg1_3; omega
    have hc0 : (s.drop i)[0]? = some s[i] := by simp [hlt]
    refine Zp rfl rfl (Zg (y_index_str rfl Tryd.str9 rfl rfl (j := 0) rfl hc0) rfl (Zp rfl rfl (ym rfl rfl (Zp rfl rfl (Zg (Zbl rfl rfl rfl) rfl (Zg (Zo rfl rfl rfl) rfl ?_))))))
    exact Zam rfl ⟨rfl, rfl, trivial⟩ (by first | (rw [List.head?_eq_getElem?, hc0]; exact decide_eq_decide.2 ⟨fun h => by rw [u8_32 h], fun h => by rw [Option.some.inj h]; rfl⟩) | (have hg := of_decide_eq_false hg1_3; rw [List.drop_eq_nil_of_le (by omega)]; rfl))
   ·
    simp only [hg1_3]
    iterate 4 refine Zaf rfl rfl rfl rfl ?_
    refine Zg (Zad rfl rfl rfl) rfl ?_
    exact Zam rfl ⟨rfl, rfl, trivial⟩ (by first | (rw [List.head?_eq_getElem?, hc0]; exact decide_eq_decide.2 ⟨fun h => by rw [u8_32 h], fun h => by rw [Option.some.inj h]; rfl⟩) | (have hg := of_decide_eq_false hg1_3; rw [List.drop_eq_nil_of_le (by omega)]; rfl))
  refine Zd ?_
  refine Zw rfl (fun hb1 => ?_) (fun hb1 => ?_)
  ·
   have h1 := of_decide_eq_true hb1
   have hlt : i < s.length := by
    rcases Nat.lt_or_ge i s.length with h | h
    ·
     exact h
    ·
     rw [List.drop_eq_nil_of_le h] at h1; cases h1
   have hd := List.drop_eq_getElem_cons hlt
   rw [hd, List.head?_cons, Option.some.injEq] at h1
   refine Zv (Zd (Zq (Zb (ym rfl rfl (Zg (y_slice_str rfl Tryd.str9 rfl (i := 1) (k' := .i64) rfl rfl (by rw [hdl]; omega) (Nat.le_refl _)) rfl (ya rfl rfl (Zf (ρ' := [(0, _), (1, _)]) ⟨rfl, rfl, trivial⟩ ?_)))))))
   refine Zah (Zab ?_)
   refine ⟨m - 1, [(0, _), (1, _)], [], by omega, ⟨rfl, rfl, trivial⟩, trivial, i + 1, by omega, hle1, rfl, (by rw [show (List.take ((s.drop i).length - 1) ((s.drop i).drop 1)) = s.drop (i + 1) by rw [List.drop_drop, hdl]; exact List.take_of_length_le (by rw [List.length_drop]; omega)]), ?_⟩
   exact ⟨rfl, by rw [hinv, hd, trm_cons, if_pos h1]⟩
  ·
   have h1 := of_decide_eq_false hb1
   refine Zan ?_
   refine Zh (Zh ?_)
   refine Zu ?_
   refine Zd (Ze (Zb (ym rfl rfl (ya rfl rfl (Zf (ρ' := [(4, _)]) ⟨rfl, trivial⟩ ?_)))))
   refine Zd (Zaj (Zbf (.tmp rfl) ?_))
   rw [hinv]
   congr 1
   cases hs : s.drop i with
   | nil => rfl
   | cons c r => rw [hs, List.head?_cons, Option.some.injEq] at h1; rw [trm_cons, if_neg h1]
theorem trimLeft_fn (s : Bs) (hs : s.length ≤ 1000000000) (u : View) : FnP Tryd.prog 37 [str s, str [32]] u fun r _ => r = str (trm s) := by
 refine FnP.intro [.tmp 4] Tryd.func37 rfl rfl rfl ?_
 intro w0 D hw0
 refine Ze (Zb (ya rfl rfl (Zf (ρ' := [(0, _), (1, _)]) ⟨rfl, rfl, trivial⟩ ?_)))
 refine Zd (Ze (Ze ?_))
 refine Zbd 12 (decide (s = [])) (ρk := [(0, _), (1, _)]) ⟨rfl, rfl, trivial⟩ ?_ ?_
 ·
  refine Zb (ym rfl rfl (Zg (y_str_eql rfl rfl rfl) rfl (ym rfl rfl ?_)))
  refine Zar 9 rfl (fun hg1_2 => ?_) (fun hg1_2 => ?_)
  ·
   refine Zaf rfl rfl rfl rfl (Zaf rfl rfl rfl rfl (Zg (Zo rfl rfl rfl) rfl ?_))
   exact Zam rfl ⟨rfl, rfl, trivial⟩ (by
   first
   | (refine (decide_eq_true ?_).symm; exact of_decide_eq_true hg1_2)
   | (refine (decide_eq_false ?_).symm; exact of_decide_eq_false hg1_2)
   | (have h := of_decide_eq_false hg1_2; rw [decide_eq_false h]; rfl)
   | (have h := of_decide_eq_false hg1_2; rw [decide_eq_false h]; decide))
  ·
   refine Zp rfl rfl (ym rfl rfl (Zp rfl rfl (Zg (y_str_eql rfl rfl rfl) rfl (Zg (Zad rfl rfl rfl) rfl ?_))))
   exact Zam rfl ⟨rfl, rfl, trivial⟩ (by
   first
   | (refine (decide_eq_true ?_).symm; exact of_decide_eq_true hg1_2)
   | (refine (decide_eq_false ?_).symm; exact of_decide_eq_false hg1_2)
   | (have h := of_decide_eq_false hg1_2; rw [decide_eq_false h]; rfl)
   | (have h := of_decide_eq_false hg1_2; rw [decide_eq_false h]; decide))
 refine Zd ?_
 refine Zw rfl (fun hb1 => ?_) (fun hb1 => ?_)
 ·
  have h1 := of_decide_eq_true hb1
  refine Ze (Zb (ym rfl rfl (ya rfl rfl (Zf (ρ' := [(4, _)]) ⟨rfl, trivial⟩ ?_))))
  refine Zd (Zaj (Zm (Zbf (.tmp rfl) ?_)))
  rw [h1]; rfl
 ·
  have h1 := of_decide_eq_false hb1
  refine Zv (Zd (Ze (Ze ?_)))
  refine Zbd 21 (true) (ρk := [(0, _), (1, _)]) ⟨rfl, rfl, trivial⟩ ?_ ?_
  ·
   refine Zb (ym rfl rfl (Zg (Zat rfl rfl Tryd.str9 rfl) rfl (Zg (Zbl rfl rfl rfl) rfl (ym rfl rfl ?_))))
   refine Zar 17 rfl (fun hg3_3 => ?_) (fun hg3_3 => ?_)
   ·
    refine Zp rfl rfl (ym rfl rfl (Zp rfl rfl (Zg (y_index_str rfl Tryd.str9 rfl rfl (j := 0) (l := [32]) (c := 32) rfl rfl) rfl (Zp rfl rfl (Zg (Zav rfl rfl rfl) rfl (Zg (Zo rfl rfl rfl) rfl ?_))))))
    exact Zam rfl ⟨rfl, rfl, trivial⟩ (by first | rfl | exact absurd hg3_3 (by decide))
   ·
    iterate 3 refine Zaf rfl rfl rfl rfl ?_
    refine Zg (Zad rfl rfl rfl) rfl ?_
    exact Zam rfl ⟨rfl, rfl, trivial⟩ (by first | rfl | exact absurd hg3_3 (by decide))
  refine Zd (Zax rfl (rfl) (Ze (Zb (ym rfl rfl (ym rfl rfl (Zg (y_index_str rfl Tryd.str9 rfl rfl (j := 0) (l := [32]) (c := 32) rfl rfl) rfl (Zt rfl rfl ?_)))))))
  refine Zac (caps := []) trivial rfl rfl Tryd.c50 rfl (FnP.mono (trimLeftB_fn s hs u) ?_)
  rintro v u1 hle1 rfl
  refine ya rfl rfl (Zf (ρ' := [(4, _)]) ⟨rfl, trivial⟩ ?_)
  refine Zd (Zaj (Zm (Zbf (.tmp rfl) ?_)))
  rfl
theorem indexB_fn (s : Bs) (u : View) : FnP Tryd.prog 36 [str s, .int .u8 32] u fun r _ => r = .int .i64 (Lib.indexByte s 32) := by
 refine FnP.of_same fun w hA => ?_
 exact Tryd.strings_IndexByte ⟨s.toArray⟩ 32 w
theorem len1_sp {s : Bs} (h : Lib.indexByte s 32 = 0) : (s.length : Int) - (trm s).length = ((len1 s : Nat) : Int) := by
 obtain ⟨h0, -⟩ := Lib.indexByte_some (o := 0) h
 cases s with
 | nil => simp at h0
 | cons c r =>
  have hc : c = 32 := by simpa using h0
  subst hc
  have hl := lead_le true r
  have e1 : len1 (32 :: r) = lead true r + 1 := by simp [len1, sp]
  have e2 : lead true (32 :: r) = lead true r + 1 := by simp [lead, sp]
  unfold trm
  rw [e1, e2, List.length_drop, List.length_cons]
  omega
theorem len1_none {s : Bs} (hs : s ≠ []) (h : Lib.indexByte s 32 < 0) : s.length = len1 s := by
 have hn : Lib.indexByte s 32 = -1 := by have := Lib.indexByte_ge s 32; omega
 have hk := Lib.indexByte_none hn
 refine (len1_of (b := false) (j := s.length) (by have := List.length_pos_iff.2 hs; omega) (Nat.le_refl _) (fun i c hi hc => ?_) (fun c hc => by simp at hc)).symm
 simp only [sp, decide_eq_false_iff_not]
 exact fun e => hk i (by rw [hc, e])
theorem len1_some {s : Bs} {o : Nat} (h : Lib.indexByte s 32 = (o : Int)) (ho : o ≠ 0) : o = len1 s := by
 obtain ⟨h0, hk⟩ := Lib.indexByte_some h
 have hlt := (List.getElem?_eq_some_iff.1 h0).1
 refine (len1_of (b := false) (j := o) (by omega) (by omega) (fun i c hi hc => ?_) (fun c hc => ?_)).symm
 ·
  simp only [sp, decide_eq_false_iff_not]
  exact fun e => hk i hi (by rw [hc, e])
 ·
  rw [h0] at hc
  cases Option.some.inj hc
  simp [sp]
theorem wordsL_take {l : List Inl} {i : Nat} {x : Inl} (h : l[i]? = some x) : wordsL (l.take (i + 1)) = wordsL (l.take i) ++ wordI x := by
 obtain ⟨hlt, rfl⟩ := List.getElem?_eq_some_iff.1 h
 rw [List.take_succ_eq_append_getElem hlt]
 unfold wordsL
 rw [List.flatMap_append]; simp
theorem partsL_take {l : List Inl} {i : Nat} {x : Inl} (h : l[i]? = some x) : partsL (l.take (i + 1)) = partsL (l.take i) ++ partI x := by
 obtain ⟨hlt, rfl⟩ := List.getElem?_eq_some_iff.1 h
 rw [List.take_succ_eq_append_getElem hlt]
 unfold partsL
 rw [List.flatMap_append]; simp
theorem word_len {x : Inl} (h : smI1 x) : (wordI x).length ≤ 90001 := by
 obtain ⟨k, t, d, ti, a, args, cites, kids⟩ := x
 unfold smI1 NodeSm at h
 show (if k = 1 then runs t else [10 :: eI (.mk k t d ti a args cites kids)]).length ≤ 90001
 split
 ·
  have := runs_len _ t (Nat.le_refl _); omega
 ·
  simp
theorem words_len : ∀ {l : List Inl}, smI l → (wordsL l).length ≤ 90001 * l.length
 | [], _ => by simp [wordsL]
 | x :: l, h => by
  unfold smI at h
  have h1 := word_len h.1
  have h2 := words_len h.2
  unfold wordsL at h2 ⊢
  rw [List.flatMap_cons, List.length_append, List.length_cons]
  omega
theorem words_take_le {l : List Inl} {i : Nat} (hi : i ≤ l.length) : (wordsL (l.take i)).length ≤ (wordsL l).length := by
 conv => rhs; rw [← List.take_append_drop i l]
 unfold wordsL
 rw [List.flatMap_append, List.length_append]; omega
theorem strsC_app (a b : List Bs) : strsC (a ++ b) = strsC a ++ strsC b := by simp [strsC]
set_option maxHeartbeats 8000000 in
theorem words_fn (l : List Inl) (hln : l.length ≤ 1000) (hsm : smI l) (hkl : ∀ x ∈ l, (eI x).length ≤ 10000000000) (v : Value) (u : View) (ht : TabU u) (ha : InlS u v l) :
  FnP Tryd.prog 18 [v] u fun r u' => StrS u' r (wordsL l) := by
 obtain ⟨cs, ⟨aA, cA, rfl, h1⟩, hc1⟩ := ha
 have hwl := words_len hsm
 refine FnP.intro [.tmp 2] Tryd.func18 rfl rfl rfl ?_
 intro w0 D hw0
 refine Ze (Zb (ya rfl rfl (Zf (ρ' := [(0, _)]) ⟨rfl, trivial⟩ ?_)))
 refine Zd (Ze (Zb (ya rfl rfl ?_)))
 refine Zbv 3 503 9 1 rfl rfl rfl ?_
 refine Zf (ρ' := [(0, _), (3, _)]) ⟨rfl, rfl, trivial⟩ ?_
 refine Zd (Ze (Ze (Zb (ym rfl rfl (Zg (Zx rfl rfl Tryd.s35 rfl) rfl (ym rfl rfl (Zf (ρ' := [(3, _), (8, _), (9, _), (10, _)]) ⟨rfl, rfl, rfl, rfl, trivial⟩ ?_)))))))
 refine Zd (Zq ?_)
 refine Zaq (fun m_0 ρ σ u' => ∃ i : Nat, i + m_0 = l.length ∧ VLe u u' ∧ σ = [(503, (none, .row 9 1 (wordsL (l.take i)).length (strsC (wordsL (l.take i)))))] ∧ ρ = [(3, .s 503), (8, .v (.slice aA l.length cA)), (9, .v (.int .i64 l.length)), (10, .v (.int .i64 (i : Nat)))] ∧ (u = u')) (l.length) ?_ ?_
 ·
  refine ⟨[(3, _), (8, _), (9, _), (10, _)], [(503, _)], ⟨rfl, rfl, rfl, rfl, trivial⟩, ⟨rfl, trivial⟩, 0, by omega, VLe.refl _, (by first | rfl | simp), (by first | rfl | (simp only [List.cons.injEq, Prod.mk.injEq, SV.v.injEq, Value.int.injEq, true_and, and_true]; omega) | simp), ?_⟩
  rfl
 ·
  rintro m ρ σ u' ⟨i, hi3, hle3, rfl, rfl, rfl⟩
  refine Ze (Zb (Zg (Zav rfl rfl rfl) rfl (Zf (ρ' := [(3, _), (8, _), (9, _), (10, _), (11, _)]) ⟨rfl, rfl, rfl, rfl, rfl, trivial⟩ ?_)))
  refine Zd (Ze ?_)
  refine Zw rfl (fun hb3 => ?_) (fun hb3 => ?_)
  ·
   have h3 := of_decide_eq_true hb3
   obtain ⟨x, hx⟩ : ∃ x, l[i]? = some x := ⟨_, List.getElem?_eq_getElem (by omega)⟩
   have hC := hc1.get i x hx
   have hxl := hkl x (List.mem_of_getElem? hx)
   have hxs := smI_get hsm hx
   have hT := wordsL_take hx
   have hWl := words_take_le (l := l) (i := i) (by omega)
   have hWl2 := words_take_le (l := l) (i := i + 1) (by omega)
   rw [hT, List.length_append] at hWl2
   obtain ⟨W, hW⟩ : ∃ W, W = wordsL (l.take i) := ⟨_, rfl⟩
   rw [← hW] at hT hWl hWl2 ⊢
   obtain ⟨k, t, d, ti, a, args, cites, kids⟩ := x
   obtain ⟨vc, vp, va, vt, vk, hcut, -⟩ := hC.cells
   have hC2 := hC
   rw [hcut] at hC2
   have oneAll := hC2.one
   unfold smI1 NodeSm at hxs
   refine Zv (Zd (Ze (Zq (Ze (Zb (Zg (Zs rfl Tryd.s35 rfl rfl h1 rfl (by omega)) rfl (Zg (Zr rfl Tryd.k44 rfl h1 (by omega) hcut (vs := [_, _, _, _, _, _, _, _, _, _]) rfl rfl rfl rfl) rfl (Zt rfl rfl ?_))))))))
   refine Zau trivial Tryd.z44 rfl rfl rfl ?_
   refine Zt rfl rfl ?_
   refine Zao trivial rfl Tryd.k44 rfl rfl rfl (vs := [_, _, _, _, _, _, _, _, _, _]) rfl rfl (by first | rfl | assumption | simp [Value.oneCell', str]) (Nat.le_of_ble_eq_true rfl) rfl ?_
   refine Zf (ρ' := [(3, _), (5, _), (8, _), (9, _), (10, _)]) ⟨rfl, rfl, rfl, rfl, rfl, trivial⟩ ?_
   refine Zd (Ze (Ze (Zb (Zg (Zi rfl Tryd.f44' rfl (by decide) rfl) rfl (Zg (Zl rfl Tryd.k3 rfl rfl rfl (vs := [_]) rfl rfl rfl) rfl (Zg (y_neq rfl rfl rfl) rfl (Zf (ρ' := [(3, _), (5, _), (8, _), (9, _), (10, _), (16, _)]) ⟨rfl, rfl, rfl, rfl, rfl, rfl, trivial⟩ ?_)))))))
   refine Zd ?_
   refine Zw rfl (fun hb5 => ?_) (fun hb5 => ?_)
   ·
    have h5 := of_decide_eq_true hb5
    have hwi : wordI (.mk k t d ti a args cites kids) = [10 :: eI (.mk k t d ti a args cites kids)] := by unfold wordI; exact if_neg h5
    rw [hwi] at hT hWl2
    refine Ze (Zb (ym rfl rfl (Zg (Zl rfl Tryd.k44 rfl rfl rfl (vs := [_, _, _, _, _, _, _, _, _, _]) rfl rfl rfl) rfl (Zt rfl rfl ?_))))
    refine Zac (caps := []) trivial rfl rfl Tryd.c35 rfl (FnP.mono (key_fn _ _ u hxl ht hC2) ?_)
    rintro v u1 hle1 ⟨rfl, rfl⟩
    refine Zg (y_str_add (l := [10]) rfl rfl rfl (by simp only [List.length_cons, List.length_nil]; omega)) rfl (Zt rfl rfl ?_)
    refine Zai trivial Tryd.s22 Tryd.z9 (ps := [(_, _)]) rfl (xs := [_]) rfl rfl rfl rfl rfl rfl rfl ?_
    refine Zt rfl rfl ?_
    refine Zay trivial rfl rfl Tryd.s22 Tryd.z9 rfl rfl rfl rfl rfl rfl (by first | rfl | assumption | simp [Value.oneCell', str]) (by omega) (by omega) (ρ' := [(8, _), (9, _), (10, _)]) ⟨rfl, rfl, rfl, trivial⟩ rfl rfl rfl ?_
    refine ya rfl rfl ?_
    refine Zbu 22 503 rfl rfl rfl ?_
    refine Zf (ρ' := [(3, _), (8, _), (9, _), (10, _)]) ⟨rfl, rfl, rfl, rfl, trivial⟩ ?_
    refine Zd ?_
    refine Zan ?_
    refine Zh ?_
    refine Zu ?_
    refine Zd (Zb (Zg (Zap rfl rfl rfl (Zk (by omega))) rfl ?_))
    refine ym rfl rfl (Zf (ρ' := [(3, _), (8, _), (9, _), (10, _)]) ⟨rfl, rfl, rfl, rfl, trivial⟩ ?_)
    refine Zab ?_
    refine ⟨m - 1, [(3, _), (8, _), (9, _), (10, _)], [(503, _)], by omega, ⟨rfl, rfl, rfl, rfl, trivial⟩, ⟨rfl, trivial⟩, i + 1, by omega, (VLe.refl _), (by rw [hT] <;> first | rfl | (rw [strsC_app, List.length_append]; rfl)), (by first | rfl | simp), ?_⟩
    rfl
   ·
    have h5 : k = 1 := Decidable.of_not_not (of_decide_eq_false hb5)
    have hwi : wordI (.mk k t d ti a args cites kids) = runs t := by unfold wordI; exact if_pos h5
    rw [hwi] at hT hWl2
    refine Zv (Zd (Ze (Zb (Zg (Zi rfl Tryd.f44' rfl (by decide) rfl) rfl (Zg (Zl rfl Tryd.k9 rfl rfl rfl (vs := [_]) rfl rfl rfl) rfl (ya rfl rfl (Zf (ρ' := [(3, _), (6, _), (8, _), (9, _), (10, _)]) ⟨rfl, rfl, rfl, rfl, rfl, trivial⟩ ?_)))))))
    refine Zd (Zq ?_)
    refine Zaq (fun m_0 ρ σ u' => ∃ z : Nat, z + m_0 = t.length ∧ VLe u u' ∧ ∃ (p : Nat) (D : List Bs), σ = [(503, (none, .row 9 1 (W ++ D).length (strsC (W ++ D))))] ∧ ρ = [(3, .s 503), (6, .v (str (t.drop p))), (8, .v (.slice aA l.length cA)), (9, .v (.int .i64 l.length)), (10, .v (.int .i64 (i : Nat)))] ∧ (u = u' ∧ z ≤ p ∧ p ≤ t.length ∧ runs t = D ++ runs (t.drop p))) (t.length) ?_ ?_
    ·
     refine ⟨[(3, _), (6, _), (8, _), (9, _), (10, _)], [(503, _)], ⟨rfl, rfl, rfl, rfl, rfl, trivial⟩, ⟨rfl, trivial⟩, 0, by omega, VLe.refl _, 0, [], (by rw [List.append_nil]), rfl, ?_⟩
     exact ⟨rfl, Nat.le_refl _, Nat.zero_le _, rfl⟩
    ·
     rintro mz ρ σ u' ⟨z, hi8, hle8, p, D, rfl, rfl, ⟨rfl, hzp, hpt, hD⟩⟩
     refine Ze (Ze (Zb (ym rfl rfl (Zg (Zbp rfl rfl rfl) rfl (Zf (ρ' := [(3, _), (6, _), (8, _), (9, _), (10, _), (26, _)]) ⟨rfl, rfl, rfl, rfl, rfl, rfl, trivial⟩ ?_)))))
     refine Zd ?_
     refine Zw rfl (fun hb8 => ?_) (fun hb8 => ?_)
     ·
      have h8 : t.drop p ≠ [] := of_decide_eq_true hb8
      obtain ⟨S, hS⟩ : ∃ S, S = t.drop p := ⟨_, rfl⟩
      have hSl : S.length = t.length - p := by rw [hS, List.length_drop]
      have hDl := congrArg List.length hD
      rw [List.length_append] at hDl
      rw [← hS] at h8 hD ⊢
      have hDl2 := congrArg List.length hD
      rw [runs_step h8, List.length_append, List.length_cons] at hDl2
      have hl1 := len1_le S
      have hl2 := len1_pos h8
      have hWDl : (W ++ D).length = W.length + D.length := List.length_append
      refine Zv (Zd (Zq (Ze (Zb (ym rfl rfl (Zt rfl rfl ?_))))))
      refine Zac (caps := []) trivial rfl rfl Tryd.c36 rfl (FnP.mono (indexB_fn S u) ?_)
      rintro v u1 hle1 rfl
      refine ya rfl rfl (Zf (ρ' := [(3, _), (6, _), (7, _), (8, _), (9, _), (10, _)]) ⟨rfl, rfl, rfl, rfl, rfl, rfl, trivial⟩ ?_)
      refine Zd ?_
      refine wc_cut (fun ρ σ uc14 => VLe u uc14 ∧ σ = [(503, (none, .row 9 1 (W ++ D).length (strsC (W ++ D))))] ∧ ρ = [(3, .s 503), (6, .v (str S)), (7, .v (.int .i64 ((len1 S : Nat) : Int))), (8, .v (.slice aA l.length cA)), (9, .v (.int .i64 l.length)), (10, .v (.int .i64 (i : Nat)))] ∧ (u = uc14)) ?_ ?_
      ·
       refine Ze (Zb (ym rfl rfl (Zg (Zbl rfl rfl rfl) rfl (Zf (ρ' := [(3, _), (6, _), (7, _), (8, _), (9, _), (10, _), (30, _)]) ⟨rfl, rfl, rfl, rfl, rfl, rfl, rfl, trivial⟩ ?_))))
       refine Zd ?_
       refine Zw rfl (fun hb10 => ?_) (fun hb10 => ?_)
       ·
        have h10 := of_decide_eq_true hb10
        refine Zb (ym rfl rfl (Zg (Zat rfl rfl Tryd.str9 rfl) rfl (ym rfl rfl (Zt rfl rfl ?_))))
        refine Zac (caps := []) trivial rfl rfl Tryd.c37 rfl (FnP.mono (trimLeft_fn S (by omega) u) ?_)
        rintro v u1 hle1 rfl
        refine Zg (Zat rfl rfl Tryd.str9 rfl) rfl (Zg (y_sub rfl rfl rfl (Zk (by have := len1_sp h10; omega))) rfl ?_)
        rw [len1_sp h10]
        refine ya rfl rfl (Zf (ρ' := [(3, _), (6, _), (7, _), (8, _), (9, _), (10, _)]) ⟨rfl, rfl, rfl, rfl, rfl, rfl, trivial⟩ ?_)
        refine Zab ?_
        refine ⟨[(3, _), (6, _), (7, _), (8, _), (9, _), (10, _)], [(503, _)], ⟨rfl, rfl, rfl, rfl, rfl, rfl, trivial⟩, ⟨rfl, trivial⟩, (VLe.refl _), (by first | rfl | simp), (by first | rfl | (simp only [List.cons.injEq, Prod.mk.injEq, SV.v.injEq, Value.int.injEq, true_and, and_true]; omega) | simp), ?_⟩
        rfl
       ·
        have h10 := of_decide_eq_false hb10
        refine Ze (Zb (ym rfl rfl (Zg (Zav rfl rfl rfl) rfl (Zf (ρ' := [(3, _), (6, _), (7, _), (8, _), (9, _), (10, _), (38, _)]) ⟨rfl, rfl, rfl, rfl, rfl, rfl, rfl, trivial⟩ ?_))))
        refine Zd ?_
        refine Zw rfl (fun hb12 => ?_) (fun hb12 => ?_)
        ·
         have h12 := of_decide_eq_true hb12
         refine Zb (ym rfl rfl (Zg (Zat rfl rfl Tryd.str9 rfl) rfl ?_))
         rw [len1_none h8 h12]
         refine ya rfl rfl (Zf (ρ' := [(3, _), (6, _), (7, _), (8, _), (9, _), (10, _)]) ⟨rfl, rfl, rfl, rfl, rfl, rfl, trivial⟩ ?_)
         refine Zab ?_
         refine ⟨[(3, _), (6, _), (7, _), (8, _), (9, _), (10, _)], [(503, _)], ⟨rfl, rfl, rfl, rfl, rfl, rfl, trivial⟩, ⟨rfl, trivial⟩, (VLe.refl _), (by first | rfl | simp), (by first | rfl | (simp only [List.cons.injEq, Prod.mk.injEq, SV.v.injEq, Value.int.injEq, true_and, and_true]; omega) | simp), ?_⟩
         rfl
        ·
         have h12 := of_decide_eq_false hb12
         obtain ⟨o, ho⟩ : ∃ o : Nat, Lib.indexByte S 32 = (o : Int) := ⟨(Lib.indexByte S 32).toNat, by omega⟩
         have ho2 := len1_some ho (fun e => h10 (by rw [ho, e]; rfl))
         rw [ho, ho2]
         refine Zv (Zab ?_)
         refine ⟨[(3, _), (6, _), (7, _), (8, _), (9, _), (10, _)], [(503, _)], ⟨rfl, rfl, rfl, rfl, rfl, rfl, trivial⟩, ⟨rfl, trivial⟩, (VLe.refl _), (by first | rfl | simp), (by first | rfl | (simp only [List.cons.injEq, Prod.mk.injEq, SV.v.injEq, Value.int.injEq, true_and, and_true]; omega) | simp), ?_⟩
         rfl
      ·
       rintro ρ σ uc14 ⟨hlc14, rfl, rfl, rfl⟩
       refine Ze (Zb (ym rfl rfl (ym rfl rfl (ym rfl rfl (Zg (y_slice_str rfl Tryd.str9 rfl (i := 0) (j := len1 S) (k := .i64) rfl rfl (by omega) (by omega)) rfl (Zt rfl rfl ?_))))))
       refine Zai trivial Tryd.s22 Tryd.z9 (ps := [(_, _)]) rfl (xs := [_]) rfl rfl rfl rfl rfl rfl rfl ?_
       refine Zt rfl rfl ?_
       refine Zay trivial rfl rfl Tryd.s22 Tryd.z9 rfl rfl rfl rfl rfl rfl (by first | rfl | assumption | simp [Value.oneCell', str]) (by omega) (by omega) (ρ' := [(6, _), (7, _), (8, _), (9, _), (10, _)]) ⟨rfl, rfl, rfl, rfl, rfl, trivial⟩ rfl rfl rfl ?_
       refine ya rfl rfl ?_
       refine Zbu 46 503 rfl rfl rfl ?_
       refine Zf (ρ' := [(3, _), (6, _), (7, _), (8, _), (9, _), (10, _)]) ⟨rfl, rfl, rfl, rfl, rfl, rfl, trivial⟩ ?_
       refine Zd (Zb (ym rfl rfl (ym rfl rfl (Zg (y_slice_str rfl Tryd.str9 rfl (i := len1 S) (j := S.length) (k' := .i64) rfl rfl (by omega) (by omega)) rfl ?_))))
       rw [show ((S.drop (len1 S)).take (S.length - len1 S)) = t.drop (p + len1 S) by rw [List.take_of_length_le (by rw [List.length_drop]; omega), hS, List.drop_drop]]
       refine ya rfl rfl (Zf (ρ' := [(3, _), (6, _), (8, _), (9, _), (10, _)]) ⟨rfl, rfl, rfl, rfl, rfl, trivial⟩ ?_)
       refine Zah (Zab ?_)
       refine ⟨mz - 1, [(3, _), (6, _), (8, _), (9, _), (10, _)], [(503, _)], by omega, ⟨rfl, rfl, rfl, rfl, rfl, trivial⟩, ⟨rfl, trivial⟩, z + 1, by omega, (VLe.refl _), p + len1 S, D ++ [S.take (len1 S)], (by rw [← List.append_assoc]; generalize W ++ D = WD; rw [strsC_app, List.length_append]; rfl), (by first | rfl | simp), ?_⟩
       exact ⟨rfl, by omega, by omega, by rw [hD, runs_step h8, hS, List.drop_drop]; simp⟩
     ·
      have h8 : t.drop p = [] := Decidable.of_not_not (of_decide_eq_false hb8)
      rw [h8, runs, List.append_nil] at hD
      rw [hD] at hT
      refine Zan ?_
      refine Zh (Zh ?_)
      refine Zu ?_
      refine Zah (Zd (Zb (Zg (Zap rfl rfl rfl (Zk (by omega))) rfl ?_)))
      refine ym rfl rfl (Zf (ρ' := [(3, _), (8, _), (9, _), (10, _)]) ⟨rfl, rfl, rfl, rfl, trivial⟩ ?_)
      refine Zab ?_
      refine ⟨m - 1, [(3, _), (8, _), (9, _), (10, _)], [(503, _)], by omega, ⟨rfl, rfl, rfl, rfl, trivial⟩, ⟨rfl, trivial⟩, i + 1, by omega, (VLe.refl _), (by rw [hT] <;> first | rfl | (rw [strsC_app, List.length_append]; rfl)), (by first | rfl | simp), ?_⟩
      rfl
  ·
   have h3 := of_decide_eq_false hb3
   rw [List.take_of_length_le (by omega)]
   refine Zan ?_
   refine Zh (Zh ?_)
   refine Zu ?_
   refine Zd (Ze (Zb (ym rfl rfl ?_)))
   refine Zaz 503 rfl ?_
   intro ad503 cap503 uF hleF hF
   refine ya rfl rfl (Zf (ρ' := [(2, _)]) ⟨rfl, trivial⟩ ?_)
   refine Zd (Zaj (Zbf (.tmp rfl) ?_))
   exact ⟨_, _, rfl, hF⟩
abbrev nilV : Value := .slice none 0 0
theorem tI_C (s : Bs) (hs : s.length ≤ 1000000) (u : View) : InlC u (tI s) (inlV 1 s [] [] [] nilV nilV nilV nilV nilV) :=
 InlC.mk' (nilStr _) (nilPr _) (nilStr _) (nilCi _) (nilInl _) ⟨intOk_of (by decide), by omega, by decide, by decide, attrOk0, ⟨by decide, by simp⟩, ⟨by decide, by simp⟩, by decide⟩
def sq (t : Bs) (q : Nat) : Bool := ((t[q]?).map sp).getD false
theorem sq_of {t : Bs} {q : Nat} {c : UInt8} (h : t[q]? = some c) : sq t q = sp c := by simp [sq, h]
theorem len1_drop {t : Bs} {f K : Nat} (h1 : f < K) (hK : K ≤ t.length) (ha : ∀ q, f ≤ q → q < K → sq t q = sq t f) (he : K = t.length ∨ sq t K ≠ sq t f) : len1 (t.drop f) = K - f := by
 refine len1_of (b := sq t f) (by omega) (by rw [List.length_drop]; omega) (fun i c hi hc => ?_) (fun c hc => ?_)
 ·
  rw [List.getElem?_drop] at hc
  rw [← sq_of hc]
  exact ha (f + i) (by omega) (by omega)
 ·
  rw [List.getElem?_drop, show f + (K - f) = K by omega] at hc
  rw [← sq_of hc]
  rcases he with he | he
  ·
   rw [List.getElem?_eq_none (by omega)] at hc; cases hc
  ·
   exact he
theorem parts_take_le {l : List Inl} {i : Nat} (hi : i ≤ l.length) : (partsL (l.take i)).length ≤ (partsL l).length := by
 conv => rhs; rw [← List.take_append_drop i l]
 unfold partsL
 rw [List.flatMap_append, List.length_append]; omega
set_option maxHeartbeats 8000000 in
theorem parts_fn (l : List Inl) (hln : l.length ≤ 1000) (hsm : smI l) (v : Value) (u : View) (ha : InlS u v l) :
  FnP Tryd.prog 19 [v] u fun r u' => InlS u' r (partsL l) := by
 obtain ⟨cs, ⟨aA, cA, rfl, h1⟩, hc1⟩ := ha
 have hwl := words_len hsm
 have hpl := (words_parts l).1
 refine FnP.intro [.tmp 2] Tryd.func19 rfl rfl rfl ?_
 intro w0 D hw0
 refine Ze (Zb (ya rfl rfl (Zf (ρ' := [(0, _)]) ⟨rfl, trivial⟩ ?_)))
 refine Zd (Ze (Zb (ya rfl rfl ?_)))
 refine Zbv 3 503 44 10 rfl rfl rfl ?_
 refine Zf (ρ' := [(0, _), (3, _)]) ⟨rfl, rfl, trivial⟩ ?_
 refine Zd (Ze (Ze (Zb (ya rfl rfl (Zf (ρ' := [(0, _), (3, _), (4, _)]) ⟨rfl, rfl, rfl, trivial⟩ ?_)))))
 refine Zd (Zq ?_)
 refine Zaq (fun m_0 ρ σ u' => ∃ i : Nat, i + m_0 = l.length ∧ VLe u u' ∧ ∃ (ps : List Value), σ = [(503, (none, .row 44 10 (partsL (l.take i)).length ps))] ∧ ρ = [(0, .v (.slice aA l.length cA)), (3, .s 503), (4, .v (.int .i64 (i : Nat)))] ∧ (u = u' ∧ InlsC u (partsL (l.take i)) ps)) (l.length) ?_ ?_
 ·
  refine ⟨[(0, _), (3, _), (4, _)], [(503, _)], ⟨rfl, rfl, rfl, trivial⟩, ⟨rfl, trivial⟩, 0, by omega, VLe.refl _, [], (by first | rfl | simp), (by first | rfl | (simp only [List.cons.injEq, Prod.mk.injEq, SV.v.injEq, Value.int.injEq, true_and, and_true]; omega) | simp), ?_⟩
  exact ⟨rfl, by simp [partsL, InlsC]⟩
 ·
  rintro m ρ σ u' ⟨i, hi3, hle3, ps, rfl, rfl, ⟨rfl, hps⟩⟩
  refine Ze (Ze (Zb (ym rfl rfl (ym rfl rfl (Zg (Zx rfl rfl Tryd.s35 rfl) rfl (Zg (Zav rfl rfl rfl) rfl (Zf (ρ' := [(0, _), (3, _), (4, _), (11, _)]) ⟨rfl, rfl, rfl, rfl, trivial⟩ ?_)))))))
  refine Zd ?_
  refine Zw rfl (fun hb3 => ?_) (fun hb3 => ?_)
  ·
   have h3 := of_decide_eq_true hb3
   obtain ⟨x, hx⟩ : ∃ x, l[i]? = some x := ⟨_, List.getElem?_eq_getElem (by omega)⟩
   have hC := hc1.get i x hx
   have hxs := smI_get hsm hx
   have hT := partsL_take hx
   have hWl := parts_take_le (l := l) (i := i) (by omega)
   have hWl2 := parts_take_le (l := l) (i := i + 1) (by omega)
   rw [hT, List.length_append] at hWl2
   obtain ⟨W, hW⟩ : ∃ W, W = partsL (l.take i) := ⟨_, rfl⟩
   rw [← hW] at hT hWl hWl2 hps ⊢
   obtain ⟨k, t, d, ti, a, args, cites, kids⟩ := x
   obtain ⟨vc, vp, va, vt, vk, hcut, -⟩ := hC.cells
   have hC2 := hC
   rw [hcut] at hC2
   have oneAll := hC2.one
   have hpsl := hps.len
   unfold smI1 NodeSm at hxs
   refine Zv (Zd (Ze (Zq (Ze (Ze (Zb (ym rfl rfl ?_)))))))
   refine ym rfl rfl (Zg (Zs rfl Tryd.s35 rfl rfl h1 rfl (by omega)) rfl (Zg (Zbc rfl Tryd.f44' rfl (by decide) rfl) rfl (Zg (Zr rfl Tryd.k3 rfl h1 (by omega) hcut (vs := [_]) rfl rfl rfl rfl) rfl (Zg (y_neq rfl rfl rfl) rfl (Zf (ρ' := [(0, _), (3, _), (4, _), (19, _)]) ⟨rfl, rfl, rfl, rfl, trivial⟩ ?_)))))
   refine Zd ?_
   refine Zw rfl (fun hb5 => ?_) (fun hb5 => ?_)
   ·
    have h5 := of_decide_eq_true hb5
    have hwi : partI (.mk k t d ti a args cites kids) = [.mk k t d ti a args cites kids] := by unfold partI; exact if_neg h5
    rw [hwi] at hT hWl2
    have hfin : InlsC u (W ++ [.mk k t d ti a args cites kids]) (ps ++ [.int .i64 k, str t, str d, str ti, str a.id, vc, vp, va, vt, vk]) := hps.append (InlsC.one hC2)
    refine Ze (Zb (ym rfl rfl (ym rfl rfl (ym rfl rfl (Zg (Zs rfl Tryd.s35 rfl rfl h1 rfl (by omega)) rfl (Zg (Zr rfl Tryd.k44 rfl h1 (by omega) hcut (vs := [_, _, _, _, _, _, _, _, _, _]) rfl rfl rfl rfl) rfl (Zt rfl rfl ?_)))))))
    refine Zai trivial Tryd.s35 Tryd.z44 (ps := [(_, _)]) rfl (xs := [_, _, _, _, _, _, _, _, _, _]) rfl rfl rfl rfl rfl rfl rfl ?_
    refine Zt rfl rfl ?_
    refine Zay trivial rfl rfl Tryd.s35 Tryd.z44 rfl rfl rfl rfl rfl rfl (by first | rfl | assumption | simp [Value.oneCell', str]) (by omega) (by omega) (ρ' := [(0, _), (4, _)]) ⟨rfl, rfl, trivial⟩ rfl rfl rfl ?_
    refine ya rfl rfl ?_
    refine Zbu 26 503 rfl rfl rfl ?_
    refine Zf (ρ' := [(0, _), (3, _), (4, _)]) ⟨rfl, rfl, rfl, trivial⟩ ?_
    refine Zd ?_
    refine Zan ?_
    refine Zh ?_
    refine Zu ?_
    refine Zd (Zb (ym rfl rfl (Zg (Zap rfl rfl rfl (Zk (by omega))) rfl ?_)))
    refine ya rfl rfl (Zf (ρ' := [(0, _), (3, _), (4, _)]) ⟨rfl, rfl, rfl, trivial⟩ ?_)
    refine Zab ?_
    refine ⟨m - 1, [(0, _), (3, _), (4, _)], [(503, _)], by omega, ⟨rfl, rfl, rfl, trivial⟩, ⟨rfl, trivial⟩, i + 1, by omega, (VLe.refl _), _, (by rw [hT] <;> first | rfl | (rw [List.length_append]; rfl)), (by first | rfl | simp), ?_⟩
    first | exact ⟨rfl, by rw [hT]; exact hfin⟩ | exact ⟨rfl, by rw [hT, ← hD]; exact hqs⟩ | exact ⟨rfl, by rw [hT]; exact hqs⟩
   ·
    have h5 : k = 1 := Decidable.of_not_not (of_decide_eq_false hb5)
    have hwi : partI (.mk k t d ti a args cites kids) = (runs t).map tI := by unfold partI; exact if_pos h5
    rw [hwi] at hT hWl2
    rw [List.length_map] at hWl2
    refine Zv (Zd (Ze (Zb (ym rfl rfl (ym rfl rfl (Zg (Zs rfl Tryd.s35 rfl rfl h1 rfl (by omega)) rfl (Zg (Zbc rfl Tryd.f44' rfl (by decide) rfl) rfl ?_)))))))
    refine Zg (Zr rfl Tryd.k9 rfl h1 (by omega) hcut (vs := [_]) rfl rfl rfl rfl) rfl (ya rfl rfl (ya rfl rfl (Zf (ρ' := [(0, _), (3, _), (4, _), (5, _), (6, _)]) ⟨rfl, rfl, rfl, rfl, rfl, trivial⟩ ?_)))
    refine Zd (Ze (Zb (ya rfl rfl (Zf (ρ' := [(0, _), (3, _), (4, _), (5, _), (6, _), (7, _)]) ⟨rfl, rfl, rfl, rfl, rfl, rfl, trivial⟩ ?_))))
    refine Zd (Zq ?_)
    refine Zaq (fun m_0 ρ σ u' => ∃ z : Nat, z + m_0 = t.length ∧ VLe u u' ∧ ∃ (f : Nat) (D : List Bs) (qs : List Value), σ = [(503, (none, .row 44 10 (W ++ D.map tI).length qs))] ∧ ρ = [(0, .v (.slice aA l.length cA)), (3, .s 503), (4, .v (.int .i64 (i : Nat))), (5, .v (str t)), (6, .v (.int .i64 (f : Nat))), (7, .v (.int .i64 ((z + 1 : Nat) : Int)))] ∧ (u = u' ∧ f < z + 1 ∧ f ≤ t.length ∧ (z = t.length → f = t.length) ∧ (∀ q, f ≤ q → q < z + 1 → sq t q = sq t f) ∧ runs t = D ++ runs (t.drop f) ∧ InlsC u (W ++ D.map tI) qs)) (t.length) ?_ ?_
    ·
     refine ⟨[(0, _), (3, _), (4, _), (5, _), (6, _), (7, _)], [(503, _)], ⟨rfl, rfl, rfl, rfl, rfl, rfl, trivial⟩, ⟨rfl, trivial⟩, 0, by omega, VLe.refl _, 0, [], ps, (by simp), rfl, ?_⟩
     exact ⟨rfl, by omega, by omega, fun e => by omega, fun q h1 h2 => by rw [show q = 0 by omega], rfl, by simpa using hps⟩
    ·
     rintro mz ρ σ u' ⟨z, hi9, hle9, f, D, qs, rfl, rfl, ⟨rfl, hfz, hft, hfe, hsame, hD, hqs⟩⟩
     refine Ze (Ze (Zb (ym rfl rfl (ym rfl rfl (Zg (Zat rfl rfl Tryd.str9 rfl) rfl (Zg (y_leq rfl rfl rfl) rfl (Zf (ρ' := [(0, _), (3, _), (4, _), (5, _), (6, _), (7, _), (35, _)]) ⟨rfl, rfl, rfl, rfl, rfl, rfl, rfl, trivial⟩ ?_)))))))
     refine Zd ?_
     refine Zw rfl (fun hb9 => ?_) (fun hb9 => ?_)
     ·
      have h9 := of_decide_eq_true hb9
      obtain ⟨K, hK⟩ : ∃ K, K = z + 1 := ⟨_, rfl⟩
      have hKt : K ≤ t.length := by omega
      rw [← hK] at hfz hsame h9 ⊢
      have hft2 : f < t.length := by omega
      obtain ⟨dc, hdc⟩ : ∃ c, t[f]? = some c := ⟨_, List.getElem?_eq_getElem hft2⟩
      have hDl := congrArg List.length hD
      have hne : t.drop f ≠ [] := fun e => by have := congrArg List.length e; rw [List.length_drop, List.length_nil] at this; omega
      rw [runs_step hne, List.length_append, List.length_cons] at hDl
      have hqsl := hqs.len
      have hWD : (W ++ D.map tI).length = W.length + D.length := by simp
      refine Zv (Zd ?_)
      refine wc_cut (fun ρ σ uc10 => ∃ (f2 : Nat) (D2 : List Bs) (qs2 : List Value), VLe u uc10 ∧ σ = [(503, (none, .row 44 10 (W ++ D2.map tI).length qs2))] ∧ ρ = [(0, .v (.slice aA l.length cA)), (3, .s 503), (4, .v (.int .i64 (i : Nat))), (5, .v (str t)), (6, .v (.int .i64 (f2 : Nat))), (7, .v (.int .i64 (K : Nat)))] ∧ (u = uc10 ∧ f2 < K + 1 ∧ f2 ≤ t.length ∧ (K = t.length → f2 = t.length) ∧ (∀ q, f2 ≤ q → q < K + 1 → sq t q = sq t f2) ∧ runs t = D2 ++ runs (t.drop f2) ∧ InlsC u (W ++ D2.map tI) qs2)) ?_ ?_
      ·
       refine Zq (Ze ?_)
       refine Zbd 52 (decide (K = t.length ∨ sq t K ≠ sq t f)) (ρk := [(0, _), (3, _), (4, _), (5, _), (6, _), (7, _)]) ⟨rfl, rfl, rfl, rfl, rfl, rfl, trivial⟩ ?_ ?_
       ·
        refine Zbb Tryd.mixed rfl [] trivial ?_
        refine Zak 0 rfl (by kernel_rfl) (Zj) (Zae rfl rfl) rfl (Zak 1 rfl (by kernel_rfl) (Zj) (Zae rfl rfl) rfl ?_)
        refine Zak 2 rfl (by kernel_rfl) (Zj) (Zat rfl rfl Tryd.str9 rfl) rfl ?_
        refine Zak 3 rfl (by kernel_rfl) (Zj) (Zbl rfl rfl rfl) rfl ?_
        refine Zak 4 rfl (by kernel_rfl) (Zj) (Zae rfl rfl) rfl ?_
        refine ra_case 42 rfl (fun hg11_4 => ?_) (fun hg11_4 => ?_)
        ·
         refine Zag 5 rfl rfl rfl rfl (by kernel_rfl) (Zj) rfl (Zag 6 rfl rfl rfl rfl (by kernel_rfl) (Zj) rfl (Zag 7 rfl rfl rfl rfl (by kernel_rfl) (Zj) rfl (Zag 8 rfl rfl rfl rfl (by kernel_rfl) (Zj) rfl (Zag 9 rfl rfl rfl rfl (by kernel_rfl) (Zj) rfl (Zag 10 rfl rfl rfl rfl (by kernel_rfl) (Zj) rfl (Zag 11 rfl rfl rfl rfl (by kernel_rfl) (Zj) rfl (Zag 12 rfl rfl rfl rfl (by kernel_rfl) (Zj) rfl ?_)))))))
         refine Zag 13 rfl rfl rfl rfl (by kernel_rfl) (Zj) rfl ?_
         refine Zak 14 rfl (by kernel_rfl) (Zj) (Zo rfl rfl rfl) rfl ?_
         exact Zbq (by kernel_rfl) rfl ⟨rfl, rfl, rfl, rfl, rfl, rfl, trivial⟩ (by
         first
         | (refine (decide_eq_true (.inl ?_)).symm; have := of_decide_eq_true hg11_4; omega)
         | (rw [sp_32, sp_32, ← sq_of hkc, ← sq_of hdc]
            have hKl2 : ¬ K = t.length := by omega
            rw [Bool.eq_iff_iff]
            simp [hKl2]))
        ·
         refine Zaw 5 rfl rfl rfl (by kernel_rfl) (Zj) (Zae rfl rfl) rfl (Zaw 6 rfl rfl rfl (by kernel_rfl) (Zj) (Zae rfl rfl) rfl ?_)
         have hKl : K < t.length := by have := of_decide_eq_false hg11_4; omega
         obtain ⟨kc, hkc⟩ : ∃ c, t[K]? = some c := ⟨_, List.getElem?_eq_getElem hKl⟩
         refine Zaw 7 rfl rfl rfl (by kernel_rfl) (Zj) (y_index_str rfl Tryd.str9 rfl rfl (j := K) rfl hkc) rfl ?_
         refine Zaw 8 rfl rfl rfl (by kernel_rfl) (Zj) (Zbl rfl rfl rfl) rfl ?_
         refine Zaw 9 rfl rfl rfl (by kernel_rfl) (Zj) (Zae rfl rfl) rfl (Zaw 10 rfl rfl rfl (by kernel_rfl) (Zj) (Zae rfl rfl) rfl ?_)
         refine Zaw 11 rfl rfl rfl (by kernel_rfl) (Zj) (y_index_str rfl Tryd.str9 rfl rfl (j := f) rfl hdc) rfl ?_
         refine Zaw 12 rfl rfl rfl (by kernel_rfl) (Zj) (Zbl rfl rfl rfl) rfl ?_
         refine Zaw 13 rfl rfl rfl (by kernel_rfl) (Zj) (y_bool_neq rfl rfl rfl Tryd.b4) rfl ?_
         refine Zak 14 rfl (by kernel_rfl) (Zj) (Zad rfl rfl rfl) rfl ?_
         exact Zbq (by kernel_rfl) rfl ⟨rfl, rfl, rfl, rfl, rfl, rfl, trivial⟩ (by
         first
         | (refine (decide_eq_true (.inl ?_)).symm; have := of_decide_eq_true hg11_4; omega)
         | (rw [sp_32, sp_32, ← sq_of hkc, ← sq_of hdc]
            have hKl2 : ¬ K = t.length := by omega
            rw [Bool.eq_iff_iff]
            simp [hKl2]))
       refine Zd ?_
       refine Zw rfl (fun hb11 => ?_) (fun hb11 => ?_)
       ·
        have h11 := of_decide_eq_true hb11
        have hlen := len1_drop hfz hKt hsame h11
        have hD2 : runs t = (D ++ [(t.drop f).take (K - f)]) ++ runs (t.drop K) := by
         rw [hD, runs_step hne, hlen, List.drop_drop, show f + (K - f) = K by omega]; simp
        have hsl : ((t.drop f).take (K - f)).length ≤ 1000000 := by rw [List.length_take, List.length_drop]; omega
        have hqs2 : InlsC u (W ++ (D ++ [(t.drop f).take (K - f)]).map tI) (qs ++ inlV 1 ((t.drop f).take (K - f)) [] [] [] nilV nilV nilV nilV nilV) := by
         rw [List.map_append, ← List.append_assoc]
         exact hqs.append (InlsC.one (tI_C _ hsl u))
        refine Ze (Zb (ym rfl rfl (ym rfl rfl (ym rfl rfl (ym rfl rfl (Zg (y_slice_str rfl Tryd.str9 rfl (i := f) (j := K) (k := .i64) (k' := .i64) rfl rfl (by omega) (by omega)) rfl (Zg (Zbh rfl Tryd.f44' Tryd.z44 (ps := [(_, _), (_, _)]) rfl (vs := [_, _, _, _, _, _, _, _, _, _]) rfl) rfl ?_)))))))
        refine Zt rfl rfl ?_
        refine Zai trivial Tryd.s35 Tryd.z44 (ps := [(_, _)]) rfl (xs := [_, _, _, _, _, _, _, _, _, _]) rfl rfl rfl rfl rfl rfl rfl ?_
        refine Zt rfl rfl ?_
        refine Zay trivial rfl rfl Tryd.s35 Tryd.z44 rfl rfl rfl rfl rfl rfl (by first | rfl | assumption | simp [Value.oneCell', str]) (by omega) (by omega) (ρ' := [(0, _), (4, _), (5, _), (7, _)]) ⟨rfl, rfl, rfl, rfl, trivial⟩ rfl rfl rfl ?_
        refine ya rfl rfl ?_
        refine Zbu 60 503 rfl rfl rfl ?_
        refine Zf (ρ' := [(0, _), (3, _), (4, _), (5, _), (7, _)]) ⟨rfl, rfl, rfl, rfl, rfl, trivial⟩ ?_
        refine Zd (Zb (ym rfl rfl (ya rfl rfl (Zf (ρ' := [(0, _), (3, _), (4, _), (5, _), (6, _), (7, _)]) ⟨rfl, rfl, rfl, rfl, rfl, rfl, trivial⟩ ?_))))
        refine Zah (Zab ?_)
        first
         | (refine ⟨[(0, _), (3, _), (4, _), (5, _), (6, _), (7, _)], [(503, _)], ⟨rfl, rfl, rfl, rfl, rfl, rfl, trivial⟩, ⟨rfl, trivial⟩, f, D, qs, (VLe.refl _), (by first | rfl | (rw [List.map_append, ← List.append_assoc]; generalize W ++ List.map tI D = WD; rw [List.length_append]; rfl)), (by first | rfl | simp), ?_⟩
            exact ⟨rfl, by omega, hft, fun e => absurd e h11a, fun q h1 h2 => (by by_cases e : q = K; rw [e, h11b]; exact hsame q h1 (by omega)), hD, hqs⟩)
         | (refine ⟨[(0, _), (3, _), (4, _), (5, _), (6, _), (7, _)], [(503, _)], ⟨rfl, rfl, rfl, rfl, rfl, rfl, trivial⟩, ⟨rfl, trivial⟩, K, D ++ [(t.drop f).take (K - f)], _, (VLe.refl _), (by first | rfl | (rw [List.map_append, ← List.append_assoc]; generalize W ++ List.map tI D = WD; rw [List.length_append]; rfl)), (by first | rfl | simp), ?_⟩
            exact ⟨rfl, by omega, hKt, fun e => e, fun q h1 h2 => (by rw [show q = K by omega]), hD2, hqs2⟩)
       ·
        have h11 := of_decide_eq_false hb11
        have h11a : K ≠ t.length := fun e => h11 (.inl e)
        have h11b : sq t K = sq t f := Decidable.of_not_not fun e => h11 (.inr e)
        refine Zv (Zah (Zab ?_))
        first
         | (refine ⟨[(0, _), (3, _), (4, _), (5, _), (6, _), (7, _)], [(503, _)], ⟨rfl, rfl, rfl, rfl, rfl, rfl, trivial⟩, ⟨rfl, trivial⟩, f, D, qs, (VLe.refl _), (by first | rfl | (rw [List.map_append, ← List.append_assoc]; generalize W ++ List.map tI D = WD; rw [List.length_append]; rfl)), (by first | rfl | simp), ?_⟩
            exact ⟨rfl, by omega, hft, fun e => absurd e h11a, fun q h1 h2 => (by by_cases e : q = K; rw [e, h11b]; exact hsame q h1 (by omega)), hD, hqs⟩)
         | (refine ⟨[(0, _), (3, _), (4, _), (5, _), (6, _), (7, _)], [(503, _)], ⟨rfl, rfl, rfl, rfl, rfl, rfl, trivial⟩, ⟨rfl, trivial⟩, K, D ++ [(t.drop f).take (K - f)], _, (VLe.refl _), (by first | rfl | (rw [List.map_append, ← List.append_assoc]; generalize W ++ List.map tI D = WD; rw [List.length_append]; rfl)), (by first | rfl | simp), ?_⟩
            exact ⟨rfl, by omega, hKt, fun e => e, fun q h1 h2 => (by rw [show q = K by omega]), hD2, hqs2⟩)
      ·
       rintro ρ σ uc10 ⟨f2, D2, qs2, hlc10, rfl, rfl, ⟨rfl, hfz2, hft2', hfe2, hsame2, hDD, hqq⟩⟩
       refine Zb (ym rfl rfl (Zg (Zap rfl rfl rfl (Zk (by omega))) rfl ?_))
       refine ya rfl rfl (Zf (ρ' := [(0, _), (3, _), (4, _), (5, _), (6, _), (7, _)]) ⟨rfl, rfl, rfl, rfl, rfl, rfl, trivial⟩ ?_)
       refine Zab ?_
       refine ⟨mz - 1, [(0, _), (3, _), (4, _), (5, _), (6, _), (7, _)], [(503, _)], by omega, ⟨rfl, rfl, rfl, rfl, rfl, rfl, trivial⟩, ⟨rfl, trivial⟩, z + 1, by omega, (VLe.refl _), f2, D2, qs2, rfl, (by rw [hK]; first | rfl | simp), ?_⟩
       rw [← hK]; exact ⟨rfl, hfz2, hft2', hfe2, hsame2, hDD, hqq⟩
     ·
      have h9 := of_decide_eq_false hb9
      have hz : z = t.length := by omega
      have hf : f = t.length := hfe hz
      rw [hf, List.drop_length, runs, List.append_nil] at hD
      rw [hD] at hT
      refine Zan ?_
      refine Zh (Zh ?_)
      refine Zu ?_
      refine Zah (Zd (Zb (ym rfl rfl (Zg (Zap rfl rfl rfl (Zk (by omega))) rfl ?_))))
      refine ya rfl rfl (Zf (ρ' := [(0, _), (3, _), (4, _)]) ⟨rfl, rfl, rfl, trivial⟩ ?_)
      refine Zab ?_
      refine ⟨m - 1, [(0, _), (3, _), (4, _)], [(503, _)], by omega, ⟨rfl, rfl, rfl, trivial⟩, ⟨rfl, trivial⟩, i + 1, by omega, (VLe.refl _), _, (by rw [hT] <;> first | rfl | (rw [List.length_append]; rfl)), (by first | rfl | simp), ?_⟩
      first | exact ⟨rfl, by rw [hT]; exact hfin⟩ | exact ⟨rfl, by rw [hT, ← hD]; exact hqs⟩ | exact ⟨rfl, by rw [hT]; exact hqs⟩
  ·
   have h3 := of_decide_eq_false hb3
   rw [List.take_of_length_le (by omega)] at hps ⊢
   refine Zan ?_
   refine Zh (Zh ?_)
   refine Zu ?_
   refine Zd (Ze (Zb (ym rfl rfl ?_)))
   refine Zaz 503 rfl ?_
   intro ad503 cap503 uF hleF hF
   refine ya rfl rfl (Zf (ρ' := [(2, _)]) ⟨rfl, trivial⟩ ?_)
   refine Zd (Zaj (Zbf (.tmp rfl) ?_))
   exact ⟨_, ⟨_, _, rfl, hF⟩, hps.mono hleF⟩
def xyL : List Bs := [[120], [121]]
def yzL : List Bs := [[121], [122]]
def abL : List Bs := [[97], [98]]
def baL : List Bs := [[98], [97]]
def parA (s : Bs) : Blk := .mk 1 0 [] [] [] [] attr0 [tI s] []
def stp1 : List Chg := [⟨2, 0, -1⟩, ⟨1, 1, 0⟩, ⟨3, -1, 1⟩]
def stp2 : List Chg := [⟨3, -1, 0⟩, ⟨1, 0, 1⟩, ⟨2, 1, -1⟩]
theorem T_xy : textSteps (sameS xyL yzL) 2 2 = stp1 := by
 simp [textSteps, mat, rows, pickY, firstY, best, lcs, sameS, xyL, yzL, stepsOf, goneL, newL, sameC, stp1]
theorem T_ab : textSteps (sameS abL baL) 2 2 = stp2 := by
 simp [textSteps, mat, rows, pickY, firstY, best, lcs, sameS, abL, baL, stepsOf, goneL, newL, sameC, stp2]
theorem par_ne : eB (parA [97]) ≠ eB (parA [98]) := fun h => by
 have := eB_inj h
 simp [parA, tI] at this
theorem T_par : blockSteps [parA [97]] [parA [98]] = [⟨4, 0, 0⟩] := by
 have h : sameS (keysL [parA [97]]) (keysL [parA [98]]) 0 0 = false := by
  unfold sameS keysL
  rw [decide_eq_false_iff_not]
  intro e
  exact par_ne (Option.some.inj e)
 have h1 : textSteps (sameS (keysL [parA [97]]) (keysL [parA [98]])) 1 1 = [⟨2, 0, -1⟩, ⟨3, -1, 0⟩] := by
  simp [textSteps, mat, rows, pickY, firstY, best, lcs, h, stepsOf, goneL, newL]
 unfold blockSteps
 rw [show ([parA [97]] : List Blk).length = 1 from rfl, show ([parA [98]] : List Blk).length = 1 from rfl, h1]
 simp [mrgL, mrg, kAt, kB, parA]
theorem W_ab : wordsL [tI [97, 32, 98]] = [[97], [32], [98]] := by
 simp [wordsL, wordI, tI, runs, lead, sp]
theorem P_xy : patchL xyL yzL stp1 = yzL := by
 simp [patchL, takeC, xyL, yzL, stp1]
theorem sm_par (s : Bs) (h : s.length ≤ 100) : smB1 (parA s) := by
 simp [parA, tI, attr0, smB1, smI, smI1, NodeSm, longN, smB]; omega
theorem parA_C {u : View} {s : Bs} {vl : Value} (h : InlS u vl [tI s]) : BlkC u (parA s) [.int .i64 1, .int .i64 0, str [], str [], str [], str [], str [], nilV, nilV, vl, nilV] :=
 BlkC.mk' (a := attr0) (nilStr _) (nilPr _) h (nilBlk _) ⟨intOk_of (by decide), intOk_of (by decide), by decide, by decide, by decide, by decide, attrOk0, by simp, by decide⟩
theorem para_fn (s : Bs) (hs : s.length ≤ 1000) (u : View) : FnP Tryd.prog 27 [str s] u fun r u' => ∃ ad cap, r = .agg #[nilV, .slice ad 1 cap] ∧ BlkS u' (.slice ad 1 cap) [parA s] := by
 refine FnP.intro [.cell 2 31] Tryd.func27 rfl rfl rfl ?_
 intro w0 D hw0
 refine Ze (Zb (Zt rfl rfl ?_))
 refine Zau trivial Tryd.z31 rfl rfl rfl ?_
 refine Zf (ρ' := [(0, _), (2, _)]) ⟨rfl, rfl, trivial⟩ ?_
 refine Zd (Ze (Zb (ym rfl rfl (Zg (Zbh rfl Tryd.f44' Tryd.z44 (ps := [(_, _), (_, _)]) rfl (vs := [_, _, _, _, _, _, _, _, _, _]) rfl) rfl ?_))))
 refine Zt rfl rfl ?_
 refine Zai trivial Tryd.s35 Tryd.z44 (ps := [(_, _)]) rfl (xs := [_, _, _, _, _, _, _, _, _, _]) rfl rfl rfl rfl rfl rfl rfl ?_
 refine Zaz 5 rfl ?_
 intro ad5 cap5 u5 hle5z hsl5
 refine Zg (Zbh rfl Tryd.f39' Tryd.z39 (ps := [(_, _), (_, _)]) rfl (vs := [_, _, _, _, _, _, _, _, _, _, _]) rfl) rfl ?_
 refine Zt rfl rfl ?_
 refine Zai trivial Tryd.s29 Tryd.z39 (ps := [(_, _)]) rfl (xs := [_, _, _, _, _, _, _, _, _, _, _]) rfl rfl rfl rfl rfl rfl rfl ?_
 refine Zaz 7 rfl ?_
 intro ad7 cap7 u7 hle7z hsl7
 refine Zg (Zbh rfl Tryd.f31' Tryd.z31 (ps := [(_, _)]) rfl (vs := [_, _]) rfl) rfl ?_
 refine Zt rfl rfl ?_
 refine Zao trivial rfl Tryd.k31 rfl rfl rfl (vs := [_, _]) rfl rfl (by first | rfl | assumption | simp [Value.oneCell', str]) (Nat.le_of_ble_eq_true rfl) rfl ?_
 refine Zf (ρ' := [(2, _)]) ⟨rfl, trivial⟩ ?_
 refine Zd (Zaj ?_)
 refine Zbf (.cell rfl rfl Tryd.k31 (cs := _) (vs := [_, _]) rfl rfl rfl) ?_
 refine ⟨_, _, rfl, _, ⟨_, _, rfl, hsl7⟩, BlksC.one (parA_C ⟨_, ⟨_, _, rfl, hsl5.mono hle7z⟩, InlsC.one ?_⟩)⟩
 exact tI_C s (by omega) _
theorem textsXY_fn (va vb : Value) (u : View) (ha : StrS u va xyL) (hb : StrS u vb yzL) : FnP Tryd.prog 13 [va, vb] u fun r u' => ∃ ad cap, r = .slice ad 3 cap ∧ SlC u' ad 3 cap 3 (chgsC stp1) := by
 refine FnP.mono (texts_fn xyL yzL 2 2 rfl rfl (by omega) (by omega) va vb u ha hb) ?_
 rintro r u' hle h
 rw [T_xy] at h
 exact h
theorem textsAB_fn (va vb : Value) (u : View) (ha : StrS u va abL) (hb : StrS u vb baL) : FnP Tryd.prog 13 [va, vb] u fun r u' => ∃ ad cap, r = .slice ad 3 cap ∧ SlC u' ad 3 cap 3 (chgsC stp2) := by
 refine FnP.mono (texts_fn abL baL 2 2 rfl rfl (by omega) (by omega) va vb u ha hb) ?_
 rintro r u' hle h
 rw [T_ab] at h
 exact h
theorem blocksP_fn (wa wb va vb : Value) (u : View) (hT : TabU u) (ha : BlkS u va [parA [97]]) (hb : BlkS u vb [parA [98]]) : FnP Tryd.prog 16 [.agg #[wa, va], .agg #[wb, vb]] u fun r u' => ∃ ad cap, r = .slice ad 1 cap ∧ SlC u' ad 1 cap 3 (chgsC [⟨4, 0, 0⟩]) := by
 have hlen : ∀ (s : Bs) (v : Value), s.length ≤ 100 → BlkS u v [parA s] → ∀ x ∈ ([parA s] : List Blk), (eB x).length ≤ 10000000000 := by
  rintro s v hs ⟨cs, -, hc⟩ x hx
  have h1 := eBs_le _ _ hc (by unfold smB; exact ⟨sm_par s hs, by unfold smB; trivial⟩)
  rw [List.mem_singleton] at hx
  subst hx
  have h2 : szB [parA s] = 2 := by simp [szB, szb, parA, szI, sz1, tI]
  rw [h2] at h1
  simp only [eBs, List.append_nil] at h1
  omega
 refine FnP.mono (blocks_fn [parA [97]] [parA [98]] 1 1 rfl rfl (by omega) (by omega) (hlen _ _ (by decide) ha) (hlen _ _ (by decide) hb) wa wb va vb u hT ha hb) ?_
 rintro r u' hle h
 rw [T_par] at h
 exact h
theorem wordsAB_fn (v : Value) (u : View) (hT : TabU u) (ha : InlS u v [tI [97, 32, 98]]) : FnP Tryd.prog 18 [v] u fun r u' => StrS u' r [[97], [32], [98]] := by
 have hsm : smI [tI [97, 32, 98]] := by simp [smI, smI1, tI, NodeSm, longN]
 have hx : ∀ x ∈ ([tI [97, 32, 98]] : List Inl), (eI x).length ≤ 10000000000 := by
  obtain ⟨cs, -, hc⟩ := ha
  have h1 := eIs_le _ _ hc hsm
  intro x hx
  rw [List.mem_singleton] at hx
  subst hx
  have h2 : szI [tI [97, 32, 98]] = 1 := by simp [szI, sz1, tI]
  rw [h2] at h1
  simp only [eIs, List.append_nil] at h1
  omega
 refine FnP.mono (words_fn [tI [97, 32, 98]] (by decide) hsm hx v u hT ha) ?_
 rintro r u' hle h
 rw [W_ab] at h
 exact h
theorem lawTexts_same (a : List Bs) (ha : a.length ≤ 1000) (va vb : Value) (u : View) (h1 : StrS u va a) (h2 : StrS u vb a) : FnP Tryd.prog 22 [va, vb] u fun r _ => r = .bool true := by
 refine FnP.mono (lawTexts_fn a a (by omega) (by omega) va vb u h1 h2) ?_
 rintro r u' hle rfl
 rw [decide_eq_true rfl]
theorem len4_fn (v : Value) (u : View) (h : ChS u v [⟨4, 0, 0⟩]) : FnP Tryd.prog 20 [v] u fun r _ => r = .int .i64 2 := by
 refine FnP.mono (length_fn [⟨4, 0, 0⟩] (by decide) v u h) ?_
 rintro r u' hle rfl
 rfl
theorem patchXY_fn (va vb v : Value) (u : View) (ha : StrS u va xyL) (hb : StrS u vb yzL) (hv : ChS u v stp1) : FnP Tryd.prog 23 [va, vb, v] u fun r u' => StrS u' r yzL := by
 refine FnP.mono (patch_fn xyL yzL stp1 (by decide) va vb v u ha hb hv) ?_
 rintro r u' hle h
 rw [P_xy] at h
 exact h
set_option maxHeartbeats 8000000 in
theorem awake_fn (u : View) (hT : TabU u) : FnP Tryd.prog 11 [] u fun r _ => r = .bool true := by
 refine FnP.intro [.tmp 0] Tryd.func11 rfl rfl rfl ?_
 intro w0 D hw0
 refine Ze (Zb (ya rfl rfl (Zf (ρ' := []) trivial ?_)))
 refine Zd (Ze (Zb (Zt rfl rfl ?_)))
 refine Zai trivial Tryd.s22 Tryd.z9 (ps := [(_, _), (_, _)]) rfl (xs := [_, _]) rfl rfl rfl rfl rfl rfl rfl ?_
 refine Zaz 7 rfl ?_
 intro ad7 cap7 u7 hle7z hsl7
 refine Zt rfl rfl ?_
 refine Zai trivial Tryd.s22 Tryd.z9 (ps := [(_, _), (_, _)]) rfl (xs := [_, _]) rfl rfl rfl rfl rfl rfl rfl ?_
 refine Zaz 8 rfl ?_
 intro ad8 cap8 u8 hle8z hsl8
 refine Zt rfl rfl ?_
 refine Zba (caps := []) trivial rfl rfl Tryd.c13 rfl (FnP.mono (textsXY_fn _ _ u8 ⟨_, _, rfl, hsl7.mono hle8z⟩ ⟨_, _, rfl, hsl8⟩) ?_)
 rintro v uA hle0 ⟨aL, cL, rfl, hL⟩ hleA
 refine ya rfl rfl (Zf (ρ' := [(1, _)]) ⟨rfl, trivial⟩ ?_)
 refine Zd (Ze (Zb (Zt rfl rfl ?_)))
 refine Zai trivial Tryd.s22 Tryd.z9 (ps := [(_, _), (_, _)]) rfl (xs := [_, _]) rfl rfl rfl rfl rfl rfl rfl ?_
 refine Zaz 10 rfl ?_
 intro ad10 cap10 u10 hle10z hsl10
 refine Zt rfl rfl ?_
 refine Zai trivial Tryd.s22 Tryd.z9 (ps := [(_, _), (_, _)]) rfl (xs := [_, _]) rfl rfl rfl rfl rfl rfl rfl ?_
 refine Zaz 11 rfl ?_
 intro ad11 cap11 u11 hle11z hsl11
 refine Zt rfl rfl ?_
 refine Zba (caps := []) trivial rfl rfl Tryd.c13 rfl (FnP.mono (textsAB_fn _ _ u11 ⟨_, _, rfl, hsl10.mono hle11z⟩ ⟨_, _, rfl, hsl11⟩) ?_)
 rintro v uB hle0 ⟨aM, cM, rfl, hM⟩ hleB
 refine ya rfl rfl (Zf (ρ' := [(1, _), (2, _)]) ⟨rfl, rfl, trivial⟩ ?_)
 refine Zd (Ze (Zb (Zt rfl rfl ?_)))
 refine Zba (caps := []) trivial rfl rfl Tryd.c27 rfl (FnP.mono (para_fn [97] (by decide) uB) ?_)
 rintro v uC hle0 ⟨aP, cP, rfl, hP⟩ hleC
 refine Zt rfl rfl ?_
 refine Zba (caps := []) trivial rfl rfl Tryd.c27 rfl (FnP.mono (para_fn [98] (by decide) uC) ?_)
 rintro v uD hle0 ⟨aQ, cQ, rfl, hQ⟩ hleD
 refine Zt rfl rfl ?_
 refine Zba (caps := []) trivial rfl rfl Tryd.c16 rfl (FnP.mono (blocksP_fn _ _ _ _ uD (hT.mono (hle7z.trans (hle8z.trans (hleA.trans (hle10z.trans (hle11z.trans (hleB.trans (hleC.trans hleD)))))))) (hP.mono hleD) hQ) ?_)
 rintro v uE hle0 ⟨aB, cB, rfl, hB⟩ hleE
 refine ya rfl rfl (Zf (ρ' := [(1, _), (2, _), (3, _)]) ⟨rfl, rfl, rfl, trivial⟩ ?_)
 refine Zd (Ze (Zb (Zg (Zbh rfl Tryd.f44' Tryd.z44 (ps := [(_, _), (_, _)]) rfl (vs := [_, _, _, _, _, _, _, _, _, _]) rfl) rfl ?_)))
 refine Zt rfl rfl ?_
 refine Zai trivial Tryd.s35 Tryd.z44 (ps := [(_, _)]) rfl (xs := [_, _, _, _, _, _, _, _, _, _]) rfl rfl rfl rfl rfl rfl rfl ?_
 refine Zaz 17 rfl ?_
 intro ad17 cap17 u17 hle17z hsl17
 refine Zt rfl rfl ?_
 refine Zba (caps := []) trivial rfl rfl Tryd.c18 rfl (FnP.mono (wordsAB_fn _ u17 (hT.mono (hle7z.trans (hle8z.trans (hleA.trans (hle10z.trans (hle11z.trans (hleB.trans (hleC.trans (hleD.trans (hleE.trans hle17z)))))))))) ⟨_, ⟨_, _, rfl, hsl17⟩, InlsC.one (tI_C _ (by decide) _)⟩) ?_)
 rintro v uF hle0 ⟨aW, cW, rfl, hW⟩ hleF
 refine ya rfl rfl ?_
 have hL := hL.mono (hle10z.trans (hle11z.trans (hleB.trans (hleC.trans (hleD.trans (hleE.trans (hle17z.trans hleF)))))))
 have hM := hM.mono (hleC.trans (hleD.trans (hleE.trans (hle17z.trans hleF))))
 have hB := hB.mono (hle17z.trans hleF)
 refine Zf (ρ' := [(1, _), (2, _), (3, _), (4, _)]) ⟨rfl, rfl, rfl, rfl, trivial⟩ ?_
 refine Zd (Ze (Ze (Zb (ym rfl rfl (Zg (Zx rfl rfl Tryd.s26 rfl) rfl (Zg (y_neq rfl rfl rfl) rfl (ym rfl rfl ?_)))))))
 refine Zp rfl rfl (ym rfl rfl (Zp rfl rfl (Zg (Zx rfl rfl Tryd.s26 rfl) rfl (Zp rfl rfl (Zg (y_neq rfl rfl rfl) rfl (Zg (Zad rfl rfl rfl) rfl (ym rfl rfl ?_)))))))
 refine Zp rfl rfl (ym rfl rfl (Zp rfl rfl (Zg (Zx rfl rfl Tryd.s26 rfl) rfl (Zp rfl rfl (Zg (y_neq rfl rfl rfl) rfl (Zg (Zad rfl rfl rfl) rfl (Zf (ρ' := [(1, _), (2, _), (3, _), (4, _), (31, _)]) ⟨rfl, rfl, rfl, rfl, rfl, trivial⟩ ?_)))))))
 refine Zd (Zbo rfl (rfl) (Zv (Zd (Ze (Zb (ym rfl rfl (Zg (Zs rfl Tryd.s26 rfl rfl hL (j := 0) rfl (by decide)) rfl (Zg (Zr rfl Tryd.k51 rfl hL (by decide) (c := [.int .i64 2, .int .i64 0, .int .i64 (-1)]) rfl (vs := [_, _, _]) rfl rfl rfl rfl) rfl ?_))))))))
 refine Zg (Zbh rfl Tryd.f51' Tryd.z51 (ps := [(_, _), (_, _), (_, _)]) rfl (vs := [_, _, _]) rfl) rfl ?_
 refine Zg (y_eql_flat Tryd.q51 rfl rfl rfl rfl rfl) rfl (ym rfl rfl (Zp rfl rfl (ym rfl rfl (Zp rfl rfl (Zg (Zs rfl Tryd.s26 rfl rfl hL (j := 1) rfl (by decide)) rfl (Zp rfl rfl (Zg (Zr rfl Tryd.k51 rfl hL (by decide) (c := [.int .i64 1, .int .i64 1, .int .i64 0]) rfl (vs := [_, _, _]) rfl rfl rfl rfl) rfl ?_)))))))
 refine Zp rfl rfl (Zg (Zbh rfl Tryd.f51' Tryd.z51 (ps := [(_, _), (_, _), (_, _)]) rfl (vs := [_, _, _]) rfl) rfl ?_)
 refine Zp rfl rfl (Zg (y_eql_flat Tryd.q51 rfl rfl rfl rfl rfl) rfl (Zg (Zo rfl rfl rfl) rfl (ym rfl rfl (Zp rfl rfl (ym rfl rfl (Zp rfl rfl (Zg (Zs rfl Tryd.s26 rfl rfl hL (j := 2) rfl (by decide)) rfl ?_)))))))
 refine Zp rfl rfl (Zg (Zr rfl Tryd.k51 rfl hL (by decide) (c := [.int .i64 3, .int .i64 (-1), .int .i64 1]) rfl (vs := [_, _, _]) rfl rfl rfl rfl) rfl ?_)
 refine Zp rfl rfl (Zg (Zbh rfl Tryd.f51' Tryd.z51 (ps := [(_, _), (_, _), (_, _)]) rfl (vs := [_, _, _]) rfl) rfl ?_)
 refine Zp rfl rfl (Zg (y_eql_flat Tryd.q51 rfl rfl rfl rfl rfl) rfl (Zg (Zo rfl rfl rfl) rfl (ya rfl rfl (Zf (ρ' := [(1, _), (2, _), (3, _), (4, _), (5, _)]) ⟨rfl, rfl, rfl, rfl, rfl, trivial⟩ ?_))))
 refine Zd (Ze (Zb (ym rfl rfl (Zg (Zs rfl Tryd.s26 rfl rfl hM (j := 0) rfl (by decide)) rfl (Zg (Zr rfl Tryd.k51 rfl hM (by decide) (c := [.int .i64 3, .int .i64 (-1), .int .i64 0]) rfl (vs := [_, _, _]) rfl rfl rfl rfl) rfl ?_)))))
 refine Zg (Zbh rfl Tryd.f51' Tryd.z51 (ps := [(_, _), (_, _), (_, _)]) rfl (vs := [_, _, _]) rfl) rfl ?_
 refine Zg (y_eql_flat Tryd.q51 rfl rfl rfl rfl rfl) rfl (ym rfl rfl (Zp rfl rfl (ym rfl rfl (Zp rfl rfl (Zg (Zs rfl Tryd.s26 rfl rfl hM (j := 1) rfl (by decide)) rfl (Zp rfl rfl (Zg (Zr rfl Tryd.k51 rfl hM (by decide) (c := [.int .i64 1, .int .i64 0, .int .i64 1]) rfl (vs := [_, _, _]) rfl rfl rfl rfl) rfl ?_)))))))
 refine Zp rfl rfl (Zg (Zbh rfl Tryd.f51' Tryd.z51 (ps := [(_, _), (_, _), (_, _)]) rfl (vs := [_, _, _]) rfl) rfl ?_)
 refine Zp rfl rfl (Zg (y_eql_flat Tryd.q51 rfl rfl rfl rfl rfl) rfl (Zg (Zo rfl rfl rfl) rfl (ya rfl rfl (Zf (ρ' := [(1, _), (3, _), (4, _), (5, _), (6, _)]) ⟨rfl, rfl, rfl, rfl, rfl, trivial⟩ ?_))))
 refine Zd (Ze (Zb (ym rfl rfl (ym rfl rfl (Zp rfl rfl (ym rfl rfl (Zg (Zo rfl rfl rfl) rfl ?_)))))))
 refine ym rfl rfl (Zp rfl rfl (ym rfl rfl (Zp rfl rfl (Zg (Zs rfl Tryd.s26 rfl rfl hB (j := 0) rfl (by decide)) rfl (Zp rfl rfl (Zg (Zr rfl Tryd.k51 rfl hB (by decide) (c := [.int .i64 4, .int .i64 0, .int .i64 0]) rfl (vs := [_, _, _]) rfl rfl rfl rfl) rfl (Zp rfl rfl (Zg (Zbh rfl Tryd.f51' Tryd.z51 (ps := [(_, _), (_, _), (_, _)]) rfl (vs := [_, _, _]) rfl) rfl ?_))))))))
 refine Zp rfl rfl (Zg (y_eql_flat Tryd.q51 rfl rfl rfl rfl rfl) rfl (Zg (Zo rfl rfl rfl) rfl (ym rfl rfl (Zp rfl rfl (ym rfl rfl (Zp rfl rfl (Zt rfl rfl ?_)))))))
 refine Zai trivial Tryd.s22 Tryd.z9 (ps := [(_, _), (_, _), (_, _)]) rfl (xs := [_, _, _]) rfl rfl rfl rfl rfl rfl rfl ?_
 refine Zaz 76 rfl ?_
 intro ad76 cap76 u76 hle76z hsl76
 refine Zp rfl rfl (Zt rfl rfl ?_)
 refine Zac (caps := []) trivial rfl rfl Tryd.c22 rfl (FnP.mono (lawTexts_same [[97], [32], [98]] (by decide) _ _ u76 ⟨_, _, rfl, hW.mono hle76z⟩ ⟨_, _, rfl, hsl76⟩) ?_)
 rintro v u1 hle1 rfl
 refine Zg (Zo rfl rfl rfl) rfl (ym rfl rfl (Zp rfl rfl (ym rfl rfl (Zp rfl rfl (Zt rfl rfl ?_)))))
 refine Zac (caps := []) trivial rfl rfl Tryd.c20 rfl (FnP.mono (len4_fn _ u76 ⟨_, _, rfl, hB.mono hle76z⟩) ?_)
 rintro v u1 hle1 rfl
 refine Zp rfl rfl (Zg (Zbl rfl rfl rfl) rfl (Zg (Zo rfl rfl rfl) rfl (ym rfl rfl (Zp rfl rfl (Zt rfl rfl ?_)))))
 refine Zai trivial Tryd.s22 Tryd.z9 (ps := [(_, _), (_, _)]) rfl (xs := [_, _]) rfl rfl rfl rfl rfl rfl rfl ?_
 refine Zaz 85 rfl ?_
 intro ad85 cap85 u85 hle85z hsl85
 refine Zp rfl rfl (Zt rfl rfl ?_)
 refine Zai trivial Tryd.s22 Tryd.z9 (ps := [(_, _), (_, _)]) rfl (xs := [_, _]) rfl rfl rfl rfl rfl rfl rfl ?_
 refine Zaz 86 rfl ?_
 intro ad86 cap86 u86 hle86z hsl86
 refine Zp rfl rfl (ym rfl rfl (Zp rfl rfl (Zt rfl rfl ?_)))
 refine Zba (caps := []) trivial rfl rfl Tryd.c23 rfl (FnP.mono (patchXY_fn _ _ _ u86 ⟨_, _, rfl, hsl85.mono hle86z⟩ ⟨_, _, rfl, hsl86⟩ ⟨_, _, rfl, hL.mono (hle76z.trans (hle85z.trans hle86z))⟩) ?_)
 rintro v uP hle0 hPa hleP
 refine Zp rfl rfl (Zt rfl rfl ?_)
 refine Zai trivial Tryd.s22 Tryd.z9 (ps := [(_, _), (_, _)]) rfl (xs := [_, _]) rfl rfl rfl rfl rfl rfl rfl ?_
 refine Zaz 89 rfl ?_
 intro ad89 cap89 u89 hle89z hsl89
 refine Zp rfl rfl (Zt rfl rfl ?_)
 refine Zac (caps := []) trivial rfl rfl Tryd.c22 rfl (FnP.mono (lawTexts_same yzL (by decide) _ _ u89 (hPa.mono hle89z) ⟨_, _, rfl, hsl89⟩) ?_)
 rintro v u1 hle1 rfl
 refine Zg (Zo rfl rfl rfl) rfl (ya rfl rfl (Zf (ρ' := [(0, _)]) ⟨rfl, trivial⟩ ?_))
 refine Zd (Zaj (Zbf (.tmp rfl) ?_))
 rfl
theorem steps_len (same : Nat → Nat → Bool) (n m : Nat) : (textSteps same n m).length ≤ n + m := by
 have := textSteps_counts same n m
 omega
set_option maxHeartbeats 4000000 in
theorem diffTexts_fn (a b : List Bs) (hoa : StrOk a) (hob : StrOk b) (va vb : Value) (u : View) (hT : TabU u) (ha : StrS u va a) (hb : StrS u vb b) :
  FnP Tryd.prog 3 [va, vb] u fun r _ => r = .bool true := by
 refine FnP.intro [.tmp 4] Tryd.func3 rfl rfl rfl ?_
 intro w0 D hw0
 refine Ze (Zb (ya rfl rfl (Zf (ρ' := [(0, _), (1, _)]) ⟨rfl, rfl, trivial⟩ ?_)))
 refine Zd (Ze (Ze (Zb (ym rfl rfl (ym rfl rfl (Zt rfl rfl ?_))))))
 refine Zac (caps := []) trivial rfl rfl Tryd.c10 rfl (FnP.mono (few_fn a b hoa hob _ _ u ha hb) ?_)
 rintro v u1 hle1 ⟨bf, rfl, hbf⟩
 refine Zg (y_not rfl rfl) rfl (Zf (ρ' := [(0, _), (1, _), (8, _)]) ⟨rfl, rfl, rfl, trivial⟩ ?_)
 refine Zd ?_
 refine Zw rfl (fun hb1 => ?_) (fun hb1 => ?_)
 ·
  skip
  refine Ze (Zb (Zt rfl rfl ?_))
  refine Zac (caps := []) trivial rfl rfl Tryd.c11 rfl (FnP.mono (awake_fn u hT) ?_)
  rintro v u1 hle1 rfl
  refine ya rfl rfl (Zf (ρ' := [(4, _)]) ⟨rfl, trivial⟩ ?_)
  refine Zd (Zaj (Zm (Zbf (.tmp rfl) ?_)))
  rfl
 ·
  obtain ⟨hl1, hl2⟩ := hbf (by cases bf; cases hb1; rfl)
  have hsl := steps_len (sameS a b) a.length b.length
  refine Zv (Zd (Ze (Zb (ym rfl rfl (ym rfl rfl (Zt rfl rfl ?_))))))
  refine Zba (caps := []) trivial rfl rfl Tryd.c13 rfl (FnP.mono (texts_fn a b _ _ rfl rfl (by omega) (by omega) _ _ u ha hb) ?_)
  rintro v uA hle0 h1 hleA
  refine ym rfl rfl (ym rfl rfl (Zt rfl rfl ?_))
  refine Zba (caps := []) trivial rfl rfl Tryd.c14 rfl (FnP.mono (refTexts_fn a b _ _ rfl rfl (by omega) (by omega) _ _ uA (ha.mono hleA) (hb.mono hleA)) ?_)
  rintro v uB hle0 h2 hleB
  refine Zt rfl rfl ?_
  refine Zac (caps := []) trivial rfl rfl Tryd.c12 rfl (FnP.mono (sameChanges_fn _ (by omega) _ _ uB (h1.mono hleB) h2) ?_)
  rintro v u1 hle1 rfl
  refine ym rfl rfl (Zp rfl rfl (Zt rfl rfl ?_))
  refine Zac (caps := []) trivial rfl rfl Tryd.c11 rfl (FnP.mono (awake_fn uB (hT.mono (hleA.trans hleB))) ?_)
  rintro v u1 hle1 rfl
  refine Zg (Zo rfl rfl rfl) rfl (ya rfl rfl (Zf (ρ' := [(4, _)]) ⟨rfl, trivial⟩ ?_))
  refine Zd (Zaj (Zbf (.tmp rfl) ?_))
  rfl
theorem eB_bound {d : DDoc} {u : View} {vb : Value} (h : DSm d) (hb : BlkS u vb d.blocks) : ∀ x ∈ d.blocks, (eB x).length ≤ 10000000000 := by
 obtain ⟨-, -, h1, h2⟩ := h
 obtain ⟨cs, -, hc⟩ := hb
 intro x hx
 obtain ⟨i, hi⟩ := List.getElem?_of_mem hx
 have e1 := eB_le x _ (hc.get i x hi) (smB_get h2 hi)
 have e2 := szB_get hi
 have e3 : 1100000 * szb x ≤ 1100000 * 120 := Nat.mul_le_mul_left _ (by omega)
 omega
theorem mrgL_all (ka kb : Int → Int) (l : List Chg) : (mrgL ka kb l).length ≤ l.length := by
 have := mrgL_len ka kb l l.length
 rwa [List.take_length] at this
set_option maxHeartbeats 4000000 in
theorem diffBlocks_fn (d e : DDoc) (vm vb wm wb : Value) (u : View) (hT : TabU u) (hm : PrS u vm d.mts) (hb : BlkS u vb d.blocks) (hok : DocOk d) (hm2 : PrS u wm e.mts) (hb2 : BlkS u wb e.blocks) (hok2 : DocOk e) :
  FnP Tryd.prog 4 [.agg #[vm, vb], .agg #[wm, wb]] u fun r _ => r = .bool true := by
 have hmA := hm
 have hmB := hm2
 have hbA := hb
 have hbB := hb2
 obtain ⟨am, cm, rfl, -⟩ := hmA
 obtain ⟨am2, cm2, rfl, -⟩ := hmB
 obtain ⟨csA, ⟨ab, cb, rfl, hA⟩, hcA⟩ := hbA
 obtain ⟨csB, ⟨ab2, cb2, rfl, hB⟩, hcB⟩ := hbB
 refine FnP.intro [.tmp 4] Tryd.func4 rfl rfl rfl ?_
 intro w0 D hw0
 refine Ze (Zb (Zt rfl rfl ?_))
 refine do_box trivial rfl (cs := [_, _]) rfl rfl rfl rfl ?_
 refine Zt rfl rfl ?_
 refine do_box trivial rfl (cs := [_, _]) rfl rfl rfl rfl ?_
 refine ya rfl rfl (Zf (ρ' := [(2, _), (3, _)]) ⟨rfl, rfl, trivial⟩ ?_)
 refine Zd (Ze (Ze (Zb (Zg (Zl rfl Tryd.k31 rfl rfl rfl (vs := [_, _]) rfl rfl rfl) rfl (Zt rfl rfl ?_)))))
 refine Zac (caps := []) trivial rfl rfl Tryd.c15 rfl (FnP.mono (small_fn d _ _ u hm hb hok) ?_)
 rintro v u1 hle1 ⟨b1, rfl, hs1⟩
 refine Zg (y_not rfl rfl) rfl (ym rfl rfl ?_)
 refine Zar 8 rfl (fun hg1_3 => ?_) (fun hg1_3 => ?_)
 ·
  iterate 3 refine Zaf rfl rfl rfl rfl ?_
  refine Zg (Zo rfl rfl rfl) rfl (ym rfl rfl ?_)
  iterate 4 refine Zaf rfl rfl rfl rfl ?_
  refine Zg (Zo rfl rfl rfl) rfl (ym rfl rfl ?_)
  iterate 4 refine Zaf rfl rfl rfl rfl ?_
  refine Zg (Zo rfl rfl rfl) rfl (Zf (ρ' := [(2, _), (3, _), (24, _)]) ⟨rfl, rfl, rfl, trivial⟩ ?_)
  refine Zd (Zax rfl (rfl) (Ze (Zb (Zt rfl rfl ?_))))
  refine Zac (caps := []) trivial rfl rfl Tryd.c11 rfl (FnP.mono (awake_fn u hT) ?_)
  rintro v u1 hle1 rfl
  refine ya rfl rfl (Zf (ρ' := [(4, _)]) ⟨rfl, trivial⟩ ?_)
  refine Zd (Zaj (Zm (Zbf (.tmp rfl) ?_)))
  rfl
 ·
  refine Zp rfl rfl (Zg (Zl rfl Tryd.k31 rfl rfl rfl (vs := [_, _]) rfl rfl rfl) rfl (Zp rfl rfl (Zt rfl rfl ?_)))
  refine Zac (caps := []) trivial rfl rfl Tryd.c15 rfl (FnP.mono (small_fn e _ _ u hm2 hb2 hok2) ?_)
  rintro v u1 hle1 ⟨b2, rfl, hs2⟩
  refine Zp rfl rfl (Zg (y_not rfl rfl) rfl (Zg (Zad rfl rfl rfl) rfl (ym rfl rfl ?_)))
  refine Zar 13 rfl (fun hg1_8 => ?_) (fun hg1_8 => ?_)
  ·
   iterate 4 refine Zaf rfl rfl rfl rfl ?_
   refine Zg (Zo rfl rfl rfl) rfl (ym rfl rfl ?_)
   iterate 4 refine Zaf rfl rfl rfl rfl ?_
   refine Zg (Zo rfl rfl rfl) rfl (Zf (ρ' := [(2, _), (3, _), (24, _)]) ⟨rfl, rfl, rfl, trivial⟩ ?_)
   refine Zd (Zax rfl (rfl) (Ze (Zb (Zt rfl rfl ?_))))
   refine Zac (caps := []) trivial rfl rfl Tryd.c11 rfl (FnP.mono (awake_fn u hT) ?_)
   rintro v u1 hle1 rfl
   refine ya rfl rfl (Zf (ρ' := [(4, _)]) ⟨rfl, trivial⟩ ?_)
   refine Zd (Zaj (Zm (Zbf (.tmp rfl) ?_)))
   rfl
  ·
   refine Zp rfl rfl (Zg (Zi rfl Tryd.f31' rfl (by decide) rfl) rfl (Zp rfl rfl (Zg (Zl rfl Tryd.k29 rfl rfl rfl (vs := [_]) rfl rfl rfl) rfl (Zp rfl rfl (Zg (Zx rfl rfl Tryd.s29 rfl) rfl (Zp rfl rfl (Zg (y_gtr rfl rfl rfl) rfl ?_)))))))
   refine Zg (Zad rfl rfl rfl) rfl (ym rfl rfl ?_)
   refine Zar 19 rfl (fun hg1_14 => ?_) (fun hg1_14 => ?_)
   ·
    iterate 4 refine Zaf rfl rfl rfl rfl ?_
    refine Zg (Zo rfl rfl rfl) rfl (Zf (ρ' := [(2, _), (3, _), (24, _)]) ⟨rfl, rfl, rfl, trivial⟩ ?_)
    refine Zd (Zax rfl (rfl) (Ze (Zb (Zt rfl rfl ?_))))
    refine Zac (caps := []) trivial rfl rfl Tryd.c11 rfl (FnP.mono (awake_fn u hT) ?_)
    rintro v u1 hle1 rfl
    refine ya rfl rfl (Zf (ρ' := [(4, _)]) ⟨rfl, trivial⟩ ?_)
    refine Zd (Zaj (Zm (Zbf (.tmp rfl) ?_)))
    rfl
   ·
    refine Zp rfl rfl (Zg (Zi rfl Tryd.f31' rfl (by decide) rfl) rfl (Zp rfl rfl (Zg (Zl rfl Tryd.k29 rfl rfl rfl (vs := [_]) rfl rfl rfl) rfl (Zp rfl rfl (Zg (Zx rfl rfl Tryd.s29 rfl) rfl (Zp rfl rfl (Zg (y_gtr rfl rfl rfl) rfl ?_)))))))
    refine Zg (Zad rfl rfl rfl) rfl (Zf (ρ' := [(2, _), (3, _), (24, _)]) ⟨rfl, rfl, rfl, trivial⟩ ?_)
    refine Zd ?_
    refine Zw rfl (fun hb1 => ?_) (fun hb1 => ?_)
    ·
     refine Ze (Zb (Zt rfl rfl ?_))
     refine Zac (caps := []) trivial rfl rfl Tryd.c11 rfl (FnP.mono (awake_fn u hT) ?_)
     rintro v u1 hle1 rfl
     refine ya rfl rfl (Zf (ρ' := [(4, _)]) ⟨rfl, trivial⟩ ?_)
     refine Zd (Zaj (Zm (Zbf (.tmp rfl) ?_)))
     rfl
    ·
     refine Zv (Zd (Ze ?_))
     refine Zbb Tryd.mixed rfl [(2, _), (3, _)] ⟨rfl, rfl, trivial⟩ ?_
     have hb1' : b1 = true := by cases b1; cases hg1_3; rfl
     have hb2' : b2 = true := by cases b2; cases hg1_8; rfl
     have hS1 := hs1 hb1'
     have hS2 := hs2 hb2'
     have hn1 : d.blocks.length ≤ 30 := by have := of_decide_eq_false hg1_14; omega
     have hn2 : e.blocks.length ≤ 30 := by have := of_decide_eq_false hb1; omega
     have hsl := steps_len (sameS (keysL d.blocks) (keysL e.blocks)) d.blocks.length e.blocks.length
     have hml := mrgL_all (kAt d.blocks) (kAt e.blocks) (textSteps (sameS (keysL d.blocks) (keysL e.blocks)) d.blocks.length e.blocks.length)
     have hbl : (blockSteps d.blocks e.blocks).length ≤ 100 := by unfold blockSteps; omega
     refine Zak 0 rfl (by kernel_rfl) (Za (Zn)) (Zl rfl Tryd.k31 rfl rfl rfl (vs := [_, _]) rfl rfl rfl) rfl ?_
     refine Zak 1 rfl (by kernel_rfl) (Za (Zn)) (Zl rfl Tryd.k31 rfl rfl rfl (vs := [_, _]) rfl rfl rfl) rfl ?_
     refine Zak 3 rfl (by kernel_rfl) (Za (Zn)) (Zl rfl Tryd.k31 rfl rfl rfl (vs := [_, _]) rfl rfl rfl) rfl ?_
     refine Zak 4 rfl (by kernel_rfl) (Za (Zn)) (Zl rfl Tryd.k31 rfl rfl rfl (vs := [_, _]) rfl rfl rfl) rfl ?_
     refine Zbi (i := 2) rfl rfl (by kernel_rfl) ?_
     refine Zba (caps := []) ⟨rfl, rfl, trivial⟩ rfl rfl Tryd.c16 rfl (FnP.mono (blocks_fn d.blocks e.blocks _ _ rfl rfl (by omega) (by omega) (eB_bound hS1 hb) (eB_bound hS2 hb2) _ _ _ _ u hT hb hb2) ?_)
     rintro v uA hle0 h1 hleA
     refine Zbi (i := 5) rfl rfl (by kernel_rfl) ?_
     refine Zba (caps := []) ⟨rfl, rfl, trivial⟩ rfl rfl Tryd.c17 rfl (FnP.mono (refBlocks_fn d.blocks e.blocks _ _ rfl rfl (by omega) (by omega) _ _ _ _ uA (hb.mono hleA) (hb2.mono hleA)) ?_)
     rintro v uB hle0 h2 hleB
     refine Zbi (i := 6) rfl rfl (by kernel_rfl) ?_
     refine Zac (caps := []) ⟨rfl, rfl, trivial⟩ rfl rfl Tryd.c12 rfl (FnP.mono (sameChanges_fn _ (by omega) _ _ uB (h1.mono hleB) h2) ?_)
     rintro v u1 hle1 rfl
     refine Zak 7 rfl (by kernel_rfl) (Za (Zn)) (Zae rfl rfl) rfl ?_
     refine ra_do_on (i := 8) rfl rfl rfl (by kernel_rfl) ?_
     refine Zac (caps := []) ⟨rfl, rfl, trivial⟩ rfl rfl Tryd.c11 rfl (FnP.mono (awake_fn uB (hT.mono (hleA.trans hleB))) ?_)
     rintro v u1 hle1 rfl
     refine Zak 9 rfl (by kernel_rfl) (Za (Zn)) (Zo rfl rfl rfl) rfl ?_
     refine Zak 10 rfl (by kernel_rfl) (Za (Zn)) (y_assign rfl rfl) rfl ?_
     refine Zbn (by kernel_rfl) (ρ' := [(4, _)]) ⟨rfl, trivial⟩ ?_
     refine Zd (Zaj (Zbf (.tmp rfl) ?_))
     rfl
theorem diffLengths_fn (l : List Chg) (v : Value) (u : View) (hT : TabU u) (hv : ChS u v l) :
  FnP Tryd.prog 6 [v] u fun r _ => r = .bool true := by
 have hv2 := hv
 obtain ⟨ad, cap, rfl, -⟩ := hv2
 refine FnP.intro [.tmp 2] Tryd.func6 rfl rfl rfl ?_
 intro w0 D hw0
 refine Ze (Zb (ya rfl rfl (Zf (ρ' := [(0, _)]) ⟨rfl, trivial⟩ ?_)))
 refine Zd (Ze (Ze (Zb (ym rfl rfl (Zg (Zx rfl rfl Tryd.s26 rfl) rfl (Zg (y_gtr rfl rfl rfl) rfl (Zf (ρ' := [(0, _), (5, _)]) ⟨rfl, rfl, trivial⟩ ?_)))))))
 refine Zd ?_
 refine Zw rfl (fun hb1 => ?_) (fun hb1 => ?_)
 ·
  have h1 := of_decide_eq_true hb1
  refine Ze (Zb (Zt rfl rfl ?_))
  refine Zac (caps := []) trivial rfl rfl Tryd.c11 rfl (FnP.mono (awake_fn u hT) ?_)
  rintro v u1 hle1 rfl
  refine ya rfl rfl (Zf (ρ' := [(2, _)]) ⟨rfl, trivial⟩ ?_)
  refine Zd (Zaj (Zm (Zbf (.tmp rfl) ?_)))
  rfl
 ·
  have h1 := of_decide_eq_false hb1
  refine Zv (Zd (Ze (Zb (ym rfl rfl (Zt rfl rfl ?_)))))
  refine Zac (caps := []) trivial rfl rfl Tryd.c20 rfl (FnP.mono (length_fn l (by omega) _ u hv) ?_)
  rintro v u1 hle1 rfl
  refine ym rfl rfl (Zt rfl rfl ?_)
  refine Zac (caps := []) trivial rfl rfl Tryd.c21 rfl (FnP.mono (refLength_fn l (by omega) _ u hv) ?_)
  rintro v u1 hle1 rfl
  refine Zg (Zbl rfl rfl rfl) rfl ?_
  rw [decide_eq_true rfl]
  refine ym rfl rfl (Zp rfl rfl (Zt rfl rfl ?_))
  refine Zac (caps := []) trivial rfl rfl Tryd.c11 rfl (FnP.mono (awake_fn u hT) ?_)
  rintro v u1 hle1 rfl
  refine Zg (Zo rfl rfl rfl) rfl (ya rfl rfl (Zf (ρ' := [(2, _)]) ⟨rfl, trivial⟩ ?_))
  refine Zd (Zaj (Zbf (.tmp rfl) ?_))
  rfl
set_option maxHeartbeats 4000000 in
theorem diffPatches_fn (a b : List Bs) (l : List Chg) (hoa : StrOk a) (hob : StrOk b) (va vb v : Value) (u : View) (hT : TabU u) (ha : StrS u va a) (hb : StrS u vb b) (hv : ChS u v l) :
  FnP Tryd.prog 7 [va, vb, v] u fun r _ => r = .bool true := by
 have hv2 := hv
 obtain ⟨ad, cap, rfl, -⟩ := hv2
 refine FnP.intro [.tmp 6] Tryd.func7 rfl rfl rfl ?_
 intro w0 D hw0
 refine Ze (Zb (ya rfl rfl (Zf (ρ' := [(0, _), (1, _), (2, _)]) ⟨rfl, rfl, rfl, trivial⟩ ?_)))
 refine Zd (Ze (Ze (Zb (ym rfl rfl (ym rfl rfl (Zt rfl rfl ?_))))))
 refine Zac (caps := []) trivial rfl rfl Tryd.c10 rfl (FnP.mono (few_fn a b hoa hob _ _ u ha hb) ?_)
 rintro v u1 hle1 ⟨bf, rfl, hbf⟩
 refine Zg (y_not rfl rfl) rfl (ym rfl rfl ?_)
 refine Zar 11 rfl (fun hg1_4 => ?_) (fun hg1_4 => ?_)
 ·
  iterate 3 refine Zaf rfl rfl rfl rfl ?_
  refine Zg (Zo rfl rfl rfl) rfl (Zf (ρ' := [(0, _), (1, _), (2, _), (15, _)]) ⟨rfl, rfl, rfl, rfl, trivial⟩ ?_)
  refine Zd (Zax rfl (rfl) (Ze (Zb (Zt rfl rfl ?_))))
  refine Zac (caps := []) trivial rfl rfl Tryd.c11 rfl (FnP.mono (awake_fn u hT) ?_)
  rintro v u1 hle1 rfl
  refine ya rfl rfl (Zf (ρ' := [(6, _)]) ⟨rfl, trivial⟩ ?_)
  refine Zd (Zaj (Zm (Zbf (.tmp rfl) ?_)))
  rfl
 ·
  refine Zp rfl rfl (ym rfl rfl (Zp rfl rfl (Zg (Zx rfl rfl Tryd.s26 rfl) rfl (Zp rfl rfl (Zg (y_gtr rfl rfl rfl) rfl (Zg (Zad rfl rfl rfl) rfl (Zf (ρ' := [(0, _), (1, _), (2, _), (15, _)]) ⟨rfl, rfl, rfl, rfl, trivial⟩ ?_)))))))
  refine Zd ?_
  refine Zw rfl (fun hb1 => ?_) (fun hb1 => ?_)
  ·
   refine Ze (Zb (Zt rfl rfl ?_))
   refine Zac (caps := []) trivial rfl rfl Tryd.c11 rfl (FnP.mono (awake_fn u hT) ?_)
   rintro v u1 hle1 rfl
   refine ya rfl rfl (Zf (ρ' := [(6, _)]) ⟨rfl, trivial⟩ ?_)
   refine Zd (Zaj (Zm (Zbf (.tmp rfl) ?_)))
   rfl
  ·
   refine Zv (Zd (Ze (Zb ?_)))
   have h1 := of_decide_eq_false hb1
   have hpl := patchL_len a b l
   refine ym rfl rfl (ym rfl rfl (ym rfl rfl (Zt rfl rfl ?_)))
   refine Zba (caps := []) trivial rfl rfl Tryd.c23 rfl (FnP.mono (patch_fn a b l (by omega) _ _ _ u ha hb hv) ?_)
   rintro v uA hle0 h2 hleA
   refine ym rfl rfl (ym rfl rfl (ym rfl rfl (Zt rfl rfl ?_)))
   refine Zba (caps := []) trivial rfl rfl Tryd.c24 rfl (FnP.mono (refPatch_fn a b l (by omega) _ _ _ uA (ha.mono hleA) (hb.mono hleA) (hv.mono hleA)) ?_)
   rintro v uB hle0 h3 hleB
   refine Zt rfl rfl ?_
   refine Zac (caps := []) trivial rfl rfl Tryd.c22 rfl (FnP.mono (lawTexts_same _ (by omega) _ _ uB (h2.mono hleB) h3) ?_)
   rintro v u1 hle1 rfl
   refine ym rfl rfl (Zp rfl rfl (Zt rfl rfl ?_))
   refine Zac (caps := []) trivial rfl rfl Tryd.c11 rfl (FnP.mono (awake_fn uB (hT.mono (hleA.trans hleB))) ?_)
   rintro v u1 hle1 rfl
   refine Zg (Zo rfl rfl rfl) rfl (ya rfl rfl (Zf (ρ' := [(6, _)]) ⟨rfl, trivial⟩ ?_))
   refine Zd (Zaj (Zbf (.tmp rfl) ?_))
   rfl
theorem sames_take {l : List Chg} {i : Nat} {c : Chg} (h : l[i]? = some c) : sames (l.take (i + 1)) = sames (l.take i) + if c.kind = 1 then 1 else 0 := by
 obtain ⟨hlt, rfl⟩ := List.getElem?_eq_some_iff.1 h
 rw [List.take_succ_eq_append_getElem hlt]
 unfold sames
 rw [List.countP_append]
 congr 1
 by_cases e : l[i].kind = 1 <;> simp [e]
theorem sames_le (l : List Chg) : sames l ≤ l.length := List.countP_le_length
theorem news_no {l : List Chg} (h : news l = 0) : ∀ c ∈ l, c.kind ≠ 3 := by
 intro c hc e
 have := List.countP_eq_zero.1 h c hc
 simp [e] at this
theorem patch_back (a b : List Bs) : patchL a b (textSteps (sameS a b) a.length b.length) = b :=
 patch_steps a b _ 0 0 0 (rows_valid (sameS a b) a.length b.length a.length 0 0 _) (Nat.zero_le _)
theorem best_selfS (a : List Bs) : best (sameS a a) a.length a.length 0 0 = a.length := best_self a
theorem best_back (a b : List Bs) : best (sameS a b) a.length b.length 0 0 = best (sameS b a) b.length a.length 0 0 := by
 rw [best_flip (sameS a b) a.length b.length _ 0 0 (Nat.le_refl _)]
 have e : (fun x y => sameS a b y x) = sameS b a := by
  funext x y
  unfold sameS
  exact decide_eq_decide.2 ⟨fun h => h.symm, fun h => h.symm⟩
 rw [e]
set_option maxHeartbeats 8000000 in
theorem diffBack_fn (a b : List Bs) (hoa : StrOk a) (hob : StrOk b) (va vb : Value) (u : View) (hT : TabU u) (ha : StrS u va a) (hb : StrS u vb b) :
  FnP Tryd.prog 8 [va, vb] u fun r _ => r = .bool true := by
 have hcnt := textSteps_counts (sameS a b) a.length b.length
 have hcnt2 := textSteps_counts (sameS b a) b.length a.length
 have hcnt3 := textSteps_counts (sameS a a) a.length a.length
 have hbb := best_back a b
 have hba := best_selfS a
 have hpb := patch_back a b
 have ha2 := ha
 have hb2 := hb
 obtain ⟨aA, cA, rfl, hA⟩ := ha2
 obtain ⟨aB, cB, rfl, hB⟩ := hb2
 obtain ⟨l, hl⟩ : ∃ l, l = textSteps (sameS a b) a.length b.length := ⟨_, rfl⟩
 obtain ⟨l2, hl2⟩ : ∃ l, l = textSteps (sameS b a) b.length a.length := ⟨_, rfl⟩
 obtain ⟨l3, hl3⟩ : ∃ l, l = textSteps (sameS a a) a.length a.length := ⟨_, rfl⟩
 rw [← hl] at hcnt hpb
 rw [← hl2] at hcnt2
 rw [← hl3] at hcnt3
 refine FnP.intro [.tmp 4] Tryd.func8 rfl rfl rfl ?_
 intro w0 D hw0
 refine Ze (Zb (ya rfl rfl (Zf (ρ' := [(0, _), (1, _)]) ⟨rfl, rfl, trivial⟩ ?_)))
 refine Zd (Ze (Ze (Zb (ym rfl rfl (ym rfl rfl (Zt rfl rfl ?_))))))
 refine Zac (caps := []) trivial rfl rfl Tryd.c10 rfl (FnP.mono (few_fn a b hoa hob _ _ u ha hb) ?_)
 rintro v u1 hle1 ⟨bf, rfl, hbf⟩
 refine Zg (y_not rfl rfl) rfl (Zf (ρ' := [(0, _), (1, _), (13, _)]) ⟨rfl, rfl, rfl, trivial⟩ ?_)
 refine Zd ?_
 refine Zw rfl (fun hb1 => ?_) (fun hb1 => ?_)
 ·
  skip
  refine Ze (Zb (Zt rfl rfl ?_))
  refine Zac (caps := []) trivial rfl rfl Tryd.c11 rfl (FnP.mono (awake_fn u hT) ?_)
  rintro v u1 hle1 rfl
  refine ya rfl rfl (Zf (ρ' := [(4, _)]) ⟨rfl, trivial⟩ ?_)
  refine Zd (Zaj (Zm (Zbf (.tmp rfl) ?_)))
  rfl
 ·
  obtain ⟨hn1, hn2⟩ := hbf (by cases bf; cases hb1; rfl)
  refine Zv (Zd (Ze (Zb (ym rfl rfl (ym rfl rfl (Zt rfl rfl ?_))))))
  refine Zba (caps := []) trivial rfl rfl Tryd.c13 rfl (FnP.mono (texts_fn a b _ _ rfl rfl (by omega) (by omega) _ _ u ha hb) ?_)
  rintro v uA hle0 h1 hleA
  rw [← hl] at h1
  obtain ⟨aX, cX, rfl, hX⟩ := h1
  refine ym rfl rfl (ym rfl rfl (Zt rfl rfl ?_))
  refine Zba (caps := []) trivial rfl rfl Tryd.c13 rfl (FnP.mono (texts_fn b a _ _ rfl rfl (by omega) (by omega) _ _ uA (hb.mono hleA) (ha.mono hleA)) ?_)
  rintro v uB hle0 h2 hleB
  rw [← hl2] at h2
  obtain ⟨aY, cY, rfl, hY⟩ := h2
  refine ya rfl rfl (ya rfl rfl (Zf (ρ' := [(0, _), (1, _), (5, _), (6, _)]) ⟨rfl, rfl, rfl, rfl, trivial⟩ ?_))
  refine Zd (Ze (Zb (ya rfl rfl (Zf (ρ' := [(0, _), (1, _), (5, _), (6, _), (7, _)]) ⟨rfl, rfl, rfl, rfl, rfl, trivial⟩ ?_))))
  refine Zd (Ze (Ze (Zb (ya rfl rfl (Zf (ρ' := [(0, _), (1, _), (5, _), (6, _), (7, _), (8, _)]) ⟨rfl, rfl, rfl, rfl, rfl, rfl, trivial⟩ ?_)))))
  refine Zd (Zq ?_)
  refine Zaq (fun m_0 ρ σ u' => ∃ i : Nat, i + m_0 = l.length ∧ VLe uB u' ∧ σ = [] ∧ ρ = [(0, .v (.slice aA a.length cA)), (1, .v (.slice aB b.length cB)), (5, .v (.slice aX l.length cX)), (6, .v (.slice aY l2.length cY)), (7, .v (.int .i64 ((sames (l.take i) : Nat) : Int))), (8, .v (.int .i64 (i : Nat)))] ∧ (True)) (l.length) ?_ ?_
  ·
   refine ⟨[(0, _), (1, _), (5, _), (6, _), (7, _), (8, _)], [], ⟨rfl, rfl, rfl, rfl, rfl, rfl, trivial⟩, trivial, 0, by omega, VLe.refl _, (by first | rfl | simp), (by first | rfl | (simp only [List.cons.injEq, Prod.mk.injEq, SV.v.injEq, Value.int.injEq, true_and, and_true]; omega) | simp), ?_⟩
   trivial
  ·
   rintro m ρ σ u' ⟨i, hi6, hle6, rfl, rfl, hinv6⟩
   refine Ze (Ze (Zb (ym rfl rfl (ym rfl rfl (Zg (Zx rfl rfl Tryd.s26 rfl) rfl (Zg (Zav rfl rfl rfl) rfl (Zf (ρ' := [(0, _), (1, _), (5, _), (6, _), (7, _), (8, _), (24, _)]) ⟨rfl, rfl, rfl, rfl, rfl, rfl, rfl, trivial⟩ ?_)))))))
   refine Zd ?_
   refine Zw rfl (fun hb6 => ?_) (fun hb6 => ?_)
   ·
    have h6 := of_decide_eq_true hb6
    obtain ⟨⟨kd, sr, ds⟩, hc⟩ : ∃ c, l[i]? = some c := ⟨_, List.getElem?_eq_getElem (by omega)⟩
    have hcut : cut (chgsC l) (i * 3) 3 = [.int .i64 kd, .int .i64 sr, .int .i64 ds] := chgsC_cut hc
    have hTs : sames (l.take (i + 1)) = sames (l.take i) + if kd = 1 then 1 else 0 := sames_take hc
    have hXu := (hX.mono hleB).mono hle6
    have hsl := sames_le (l.take i)
    rw [List.length_take] at hsl
    refine Zv (Zd (Ze (Zq (Ze (Zb (ym rfl rfl (ym rfl rfl ?_)))))))
    refine Zg (Zs rfl Tryd.s26 rfl rfl hXu rfl (by omega)) rfl (Zg (Zbc rfl Tryd.f51' rfl (by decide) rfl) rfl (Zg (Zr rfl Tryd.k3 rfl hXu (by omega) hcut (vs := [_]) rfl rfl rfl rfl) rfl (Zg (Zbl rfl rfl rfl) rfl (Zf (ρ' := [(0, _), (1, _), (5, _), (6, _), (7, _), (8, _), (32, _)]) ⟨rfl, rfl, rfl, rfl, rfl, rfl, rfl, trivial⟩ ?_))))
    refine Zd ?_
    refine Zw rfl (fun hb8 => ?_) (fun hb8 => ?_)
    ·
     have h8 := of_decide_eq_true hb8
     rw [if_pos h8] at hTs
     refine Zb (ym rfl rfl (Zg (Zap rfl rfl rfl (Zk (by omega))) rfl ?_))
     refine ya rfl rfl (Zf (ρ' := [(0, _), (1, _), (5, _), (6, _), (7, _), (8, _)]) ⟨rfl, rfl, rfl, rfl, rfl, rfl, trivial⟩ ?_)
     refine Zah (Zd (Zb (ym rfl rfl (Zg (Zap rfl rfl rfl (Zk (by omega))) rfl ?_))))
     refine ya rfl rfl (Zf (ρ' := [(0, _), (1, _), (5, _), (6, _), (7, _), (8, _)]) ⟨rfl, rfl, rfl, rfl, rfl, rfl, trivial⟩ ?_)
     refine Zab ?_
     refine ⟨m - 1, [(0, _), (1, _), (5, _), (6, _), (7, _), (8, _)], [], by omega, ⟨rfl, rfl, rfl, rfl, rfl, rfl, trivial⟩, trivial, i + 1, by omega, hle6, (by first | rfl | simp), (by rw [hTs] <;> first | rfl | (simp only [List.cons.injEq, Prod.mk.injEq, SV.v.injEq, Value.int.injEq, true_and, and_true]; omega)), ?_⟩
     trivial
    ·
     have h8 := of_decide_eq_false hb8
     rw [if_neg h8, Nat.add_zero] at hTs
     refine Zv (Zah (Zd (Zb (ym rfl rfl (Zg (Zap rfl rfl rfl (Zk (by omega))) rfl ?_)))))
     refine ya rfl rfl (Zf (ρ' := [(0, _), (1, _), (5, _), (6, _), (7, _), (8, _)]) ⟨rfl, rfl, rfl, rfl, rfl, rfl, trivial⟩ ?_)
     refine Zab ?_
     refine ⟨m - 1, [(0, _), (1, _), (5, _), (6, _), (7, _), (8, _)], [], by omega, ⟨rfl, rfl, rfl, rfl, rfl, rfl, trivial⟩, trivial, i + 1, by omega, hle6, (by first | rfl | simp), (by rw [hTs] <;> first | rfl | (simp only [List.cons.injEq, Prod.mk.injEq, SV.v.injEq, Value.int.injEq, true_and, and_true]; omega)), ?_⟩
     trivial
   ·
    have h6 := of_decide_eq_false hb6
    rw [List.take_of_length_le (by omega)]
    have hmo := hleA.trans (hleB.trans hle6)
    have h1f : ChS u' (.slice aX l.length cX) l := ⟨_, _, rfl, (hX.mono hleB).mono hle6⟩
    have h2f : ChS u' (.slice aY l2.length cY) l2 := ⟨_, _, rfl, hY.mono hle6⟩
    have hsl := sames_le l
    refine Zan ?_
    refine Zh (Zh ?_)
    refine Zu ?_
    refine Zd (Ze (Zb (ym rfl rfl (Zt rfl rfl ?_))))
    refine Zac (caps := []) trivial rfl rfl Tryd.c20 rfl (FnP.mono (length_fn l (by omega) _ u' h1f) ?_)
    rintro v u1 hle1 rfl
    refine ya rfl rfl (Zf (ρ' := [(0, _), (1, _), (5, _), (6, _), (7, _), (9, _)]) ⟨rfl, rfl, rfl, rfl, rfl, rfl, trivial⟩ ?_)
    refine Zd (Ze (Zb (ym rfl rfl (ym rfl rfl (ym rfl rfl (Zt rfl rfl ?_))))))
    refine Zba (caps := []) trivial rfl rfl Tryd.c23 rfl (FnP.mono (patch_fn a b l (by omega) _ _ _ u' (ha.mono hmo) (hb.mono hmo) h1f) ?_)
    rintro v uP hle0 hP hleP
    rw [hpb] at hP
    refine ym rfl rfl (Zt rfl rfl ?_)
    refine Zac (caps := []) trivial rfl rfl Tryd.c22 rfl (FnP.mono (lawTexts_same b (by omega) _ _ uP hP (hb.mono (hmo.trans hleP))) ?_)
    rintro v u1 hle1 rfl
    refine ym rfl rfl (Zp rfl rfl (ym rfl rfl (Zp rfl rfl (ym rfl rfl (Zp rfl rfl (Zg (Zx rfl rfl Tryd.s22 rfl) rfl (Zp rfl rfl ?_)))))))
    refine ym rfl rfl (Zp rfl rfl (Zg (Zx rfl rfl Tryd.s22 rfl) rfl (Zp rfl rfl (Zg (Zap rfl rfl rfl (Zk (by omega))) rfl ?_))))
    refine Zp rfl rfl (ym rfl rfl (Zp rfl rfl (Zg (y_mul (r := ((2 * sames l : Nat) : Int)) rfl rfl rfl (Zk (e := ((2 * sames l : Nat) : Int)) (by omega))) rfl ?_)))
    refine Zp rfl rfl (Zg (y_sub rfl rfl rfl (Zk (by omega))) rfl ?_)
    refine Zp rfl rfl (Zg (Zbl rfl rfl rfl) rfl ?_)
    rw [decide_eq_true (by omega)]
    refine Zg (Zo rfl rfl rfl) rfl (ym rfl rfl (Zp rfl rfl (ym rfl rfl (Zp rfl rfl (ym rfl rfl (Zp rfl rfl (Zt rfl rfl ?_)))))))
    refine Zac (caps := []) trivial rfl rfl Tryd.c20 rfl (FnP.mono (length_fn l2 (by omega) _ uP (h2f.mono hleP)) ?_)
    rintro v u1 hle1 rfl
    refine Zp rfl rfl (Zg (Zbl rfl rfl rfl) rfl ?_)
    rw [decide_eq_true (by omega)]
    refine Zg (Zo rfl rfl rfl) rfl (ym rfl rfl (Zp rfl rfl (ym rfl rfl (Zp rfl rfl (ym rfl rfl (Zp rfl rfl (Zt rfl rfl ?_)))))))
    refine Zba (caps := []) trivial rfl rfl Tryd.c13 rfl (FnP.mono (texts_fn a a _ _ rfl rfl (by omega) (by omega) _ _ uP (ha.mono (hmo.trans hleP)) (ha.mono (hmo.trans hleP))) ?_)
    rintro v uQ hle0 h4 hleQ
    rw [← hl3] at h4
    refine Zp rfl rfl (Zt rfl rfl ?_)
    refine Zac (caps := []) trivial rfl rfl Tryd.c20 rfl (FnP.mono (length_fn l3 (by omega) _ uQ h4) ?_)
    rintro v u1 hle1 rfl
    refine Zp rfl rfl (Zg (Zbl rfl rfl rfl) rfl ?_)
    rw [decide_eq_true (by omega)]
    refine Zg (Zo rfl rfl rfl) rfl (ym rfl rfl (Zp rfl rfl (ym rfl rfl (Zp rfl rfl (ym rfl rfl (Zp rfl rfl (Zt rfl rfl ?_)))))))
    refine Zba (caps := []) trivial rfl rfl Tryd.c13 rfl (FnP.mono (texts_fn a a _ _ rfl rfl (by omega) (by omega) _ _ uQ (ha.mono (hmo.trans (hleP.trans hleQ))) (ha.mono (hmo.trans (hleP.trans hleQ)))) ?_)
    rintro v uR hle0 h5 hleR
    rw [← hl3] at h5
    obtain ⟨aZ, cZ, rfl, hZ⟩ := h5
    refine Zp rfl rfl (Zg (Zx rfl rfl Tryd.s26 rfl) rfl (Zp rfl rfl (ym rfl rfl (Zp rfl rfl (Zg (Zx rfl rfl Tryd.s22 rfl) rfl (Zp rfl rfl (Zg (Zbl rfl rfl rfl) rfl ?_)))))))
    rw [decide_eq_true (by omega)]
    refine Zg (Zo rfl rfl rfl) rfl (ym rfl rfl (Zp rfl rfl (Zt rfl rfl ?_)))
    refine Zac (caps := []) trivial rfl rfl Tryd.c11 rfl (FnP.mono (awake_fn uR (hT.mono (hmo.trans (hleP.trans (hleQ.trans hleR))))) ?_)
    rintro v u1 hle1 rfl
    refine Zg (Zo rfl rfl rfl) rfl (ya rfl rfl (Zf (ρ' := [(4, _)]) ⟨rfl, trivial⟩ ?_))
    refine Zd (Zaj (Zbf (.tmp rfl) ?_))
    rfl
set_option maxHeartbeats 8000000 in
theorem diffLongest_fn (a : List Bs) (ms : List Bool) (hoa : StrOk a) (hom : ms.length ≤ 140737488351232) (va vb : Value) (u : View) (hT : TabU u) (ha : StrS u va a) (hb : BoS u vb ms) :
  FnP Tryd.prog 9 [va, vb] u fun r _ => r = .bool true := by
 obtain ⟨b, hbd⟩ : ∃ b, b = pickL a ms := ⟨_, rfl⟩
 have hbl : b.length ≤ a.length := by rw [hbd]; exact pickL_len a ms
 have hsub : b.Sublist a := by rw [hbd]; exact pickL_sub a ms
 have hcnt := textSteps_counts (sameS a b) a.length b.length
 have hb1' : b.length ≤ best (sameS a b) a.length b.length 0 0 := best_sub a b a.length 0 0 (by omega) (Nat.zero_le _) (by simpa using hsub)
 obtain ⟨l, hl⟩ : ∃ l, l = textSteps (sameS a b) a.length b.length := ⟨_, rfl⟩
 rw [← hl] at hcnt
 have hnew : ∀ c ∈ l, c.kind ≠ 3 := news_no (by omega)
 have ha2 := ha
 obtain ⟨aA, cA, rfl, hA⟩ := ha2
 have hb2 := hb
 obtain ⟨aB, cB, rfl, hB⟩ := hb2
 refine FnP.intro [.tmp 4] Tryd.func9 rfl rfl rfl ?_
 intro w0 D hw0
 refine Ze (Zb (ya rfl rfl (Zf (ρ' := [(0, _), (1, _)]) ⟨rfl, rfl, trivial⟩ ?_)))
 refine Zd (Ze (Ze (Zb (ym rfl rfl (Zt rfl rfl ?_)))))
 refine Zac (caps := []) trivial rfl rfl Tryd.c25 rfl (FnP.mono (light_fn a hoa _ u ha) ?_)
 rintro v u1 hle1 ⟨bf, rfl⟩
 refine Zg (y_not rfl rfl) rfl (ym rfl rfl ?_)
 refine Zar 12 rfl (fun hg1_3 => ?_) (fun hg1_3 => ?_)
 ·
  iterate 3 refine Zaf rfl rfl rfl rfl ?_
  refine Zg (Zo rfl rfl rfl) rfl (ym rfl rfl ?_)
  iterate 3 refine Zaf rfl rfl rfl rfl ?_
  refine Zg (Zo rfl rfl rfl) rfl (Zf (ρ' := [(0, _), (1, _), (21, _)]) ⟨rfl, rfl, rfl, trivial⟩ ?_)
  refine Zd (Zax rfl (rfl) (Ze (Zb (Zt rfl rfl ?_))))
  refine Zac (caps := []) trivial rfl rfl Tryd.c11 rfl (FnP.mono (awake_fn u hT) ?_)
  rintro v u1 hle1 rfl
  refine ya rfl rfl (Zf (ρ' := [(4, _)]) ⟨rfl, trivial⟩ ?_)
  refine Zd (Zaj (Zm (Zbf (.tmp rfl) ?_)))
  rfl
 ·
  refine Zp rfl rfl (ym rfl rfl (Zp rfl rfl (Zg (Zx rfl rfl Tryd.s22 rfl) rfl (Zp rfl rfl (Zg (y_gtr rfl rfl rfl) rfl (Zg (Zad rfl rfl rfl) rfl (ym rfl rfl ?_)))))))
  refine Zar 17 rfl (fun hg1_8 => ?_) (fun hg1_8 => ?_)
  ·
   iterate 3 refine Zaf rfl rfl rfl rfl ?_
   refine Zg (Zo rfl rfl rfl) rfl (Zf (ρ' := [(0, _), (1, _), (21, _)]) ⟨rfl, rfl, rfl, trivial⟩ ?_)
   refine Zd (Zax rfl (rfl) (Ze (Zb (Zt rfl rfl ?_))))
   refine Zac (caps := []) trivial rfl rfl Tryd.c11 rfl (FnP.mono (awake_fn u hT) ?_)
   rintro v u1 hle1 rfl
   refine ya rfl rfl (Zf (ρ' := [(4, _)]) ⟨rfl, trivial⟩ ?_)
   refine Zd (Zaj (Zm (Zbf (.tmp rfl) ?_)))
   rfl
  ·
   refine Zp rfl rfl (ym rfl rfl (Zp rfl rfl (Zg (Zx rfl rfl Tryd.s52 rfl) rfl (Zp rfl rfl (Zg (y_gtr rfl rfl rfl) rfl (Zg (Zad rfl rfl rfl) rfl (Zf (ρ' := [(0, _), (1, _), (21, _)]) ⟨rfl, rfl, rfl, trivial⟩ ?_)))))))
   refine Zd ?_
   refine Zw rfl (fun hb1 => ?_) (fun hb1 => ?_)
   ·
    refine Ze (Zb (Zt rfl rfl ?_))
    refine Zac (caps := []) trivial rfl rfl Tryd.c11 rfl (FnP.mono (awake_fn u hT) ?_)
    rintro v u1 hle1 rfl
    refine ya rfl rfl (Zf (ρ' := [(4, _)]) ⟨rfl, trivial⟩ ?_)
    refine Zd (Zaj (Zm (Zbf (.tmp rfl) ?_)))
    rfl
   ·
    refine Zv (Zd (Ze (Zb ?_)))
    have hn1 := of_decide_eq_false hg1_8
    have hn2 := of_decide_eq_false hb1
    refine ym rfl rfl (ym rfl rfl (Zt rfl rfl ?_))
    refine Zba (caps := []) trivial rfl rfl Tryd.c26 rfl (FnP.mono (pick_fn a ms (by omega) (by omega) _ _ u ha hb) ?_)
    rintro v uA hle0 hpk hleA
    rw [← hbd] at hpk
    have hpk2 := hpk
    obtain ⟨aP, cP, rfl, hPk⟩ := hpk2
    refine ya rfl rfl (Zf (ρ' := [(0, _), (5, _)]) ⟨rfl, rfl, trivial⟩ ?_)
    refine Zd (Ze (Zb (ym rfl rfl (ym rfl rfl (Zt rfl rfl ?_)))))
    refine Zba (caps := []) trivial rfl rfl Tryd.c13 rfl (FnP.mono (texts_fn a b _ _ rfl rfl (by omega) (by omega) _ _ uA (ha.mono hleA) hpk) ?_)
    rintro v uB hle0 h1 hleB
    rw [← hl] at h1
    obtain ⟨aX, cX, rfl, hX⟩ := h1
    refine ya rfl rfl (Zf (ρ' := [(0, _), (5, _), (6, _)]) ⟨rfl, rfl, rfl, trivial⟩ ?_)
    refine Zd (Ze (Zb (ya rfl rfl (Zf (ρ' := [(0, _), (5, _), (6, _), (7, _)]) ⟨rfl, rfl, rfl, rfl, trivial⟩ ?_))))
    refine Zd (Ze (Ze (Zb (ya rfl rfl (Zf (ρ' := [(0, _), (5, _), (6, _), (7, _), (8, _)]) ⟨rfl, rfl, rfl, rfl, rfl, trivial⟩ ?_)))))
    refine Zd (Zq ?_)
    refine Zaq (fun m_0 ρ σ u' => ∃ i : Nat, i + m_0 = l.length ∧ VLe uB u' ∧ σ = [] ∧ ρ = [(0, .v (.slice aA a.length cA)), (5, .v (.slice aP b.length cP)), (6, .v (.slice aX l.length cX)), (7, .v (.int .i64 ((sames (l.take i) : Nat) : Int))), (8, .v (.int .i64 (i : Nat)))] ∧ (True)) (l.length) ?_ ?_
    ·
     refine ⟨[(0, _), (5, _), (6, _), (7, _), (8, _)], [], ⟨rfl, rfl, rfl, rfl, rfl, trivial⟩, trivial, 0, by omega, VLe.refl _, (by first | rfl | simp), (by first | rfl | (simp only [List.cons.injEq, Prod.mk.injEq, SV.v.injEq, Value.int.injEq, true_and, and_true]; omega) | simp), ?_⟩
     trivial
    ·
     rintro m ρ σ u' ⟨i, hi7, hle7, rfl, rfl, hinv7⟩
     refine Ze (Ze (Zb (ym rfl rfl (ym rfl rfl (Zg (Zx rfl rfl Tryd.s26 rfl) rfl (Zg (Zav rfl rfl rfl) rfl (Zf (ρ' := [(0, _), (5, _), (6, _), (7, _), (8, _), (32, _)]) ⟨rfl, rfl, rfl, rfl, rfl, rfl, trivial⟩ ?_)))))))
     refine Zd ?_
     refine Zw rfl (fun hb7 => ?_) (fun hb7 => ?_)
     ·
      have h7 := of_decide_eq_true hb7
      obtain ⟨⟨kd, sr, ds⟩, hc⟩ : ∃ c, l[i]? = some c := ⟨_, List.getElem?_eq_getElem (by omega)⟩
      have hcut : cut (chgsC l) (i * 3) 3 = [.int .i64 kd, .int .i64 sr, .int .i64 ds] := chgsC_cut hc
      have hTs : sames (l.take (i + 1)) = sames (l.take i) + if kd = 1 then 1 else 0 := sames_take hc
      have hXu := hX.mono hle7
      have hsl := sames_le (l.take i)
      rw [List.length_take] at hsl
      have hk3 : kd ≠ 3 := hnew _ (List.mem_of_getElem? hc)
      refine Zv (Zd (Ze (Zq (Ze (Ze (Zb (ym rfl rfl ?_)))))))
      refine ym rfl rfl (Zg (Zs rfl Tryd.s26 rfl rfl hXu rfl (by omega)) rfl (Zg (Zbc rfl Tryd.f51' rfl (by decide) rfl) rfl (Zg (Zr rfl Tryd.k3 rfl hXu (by omega) hcut (vs := [_]) rfl rfl rfl rfl) rfl (Zg (Zbl rfl rfl rfl) rfl (Zf (ρ' := [(0, _), (5, _), (6, _), (7, _), (8, _), (40, _)]) ⟨rfl, rfl, rfl, rfl, rfl, rfl, trivial⟩ ?_)))))
      refine Zd ?_
      refine Zw rfl (fun hb9 => ?_) (fun hb9 => ?_)
      ·
       have h9 := of_decide_eq_true hb9
       rw [if_pos h9] at hTs
       refine Zb (ym rfl rfl (Zg (Zap rfl rfl rfl (Zk (by omega))) rfl ?_))
       refine ya rfl rfl (Zf (ρ' := [(0, _), (5, _), (6, _), (7, _), (8, _)]) ⟨rfl, rfl, rfl, rfl, rfl, trivial⟩ ?_)
       refine Zd (Ze (Zb (ym rfl rfl (ym rfl rfl (Zg (Zs rfl Tryd.s26 rfl rfl hXu rfl (by omega)) rfl (Zg (Zbc rfl Tryd.f51' rfl (by decide) rfl) rfl (Zg (Zr rfl Tryd.k3 rfl hXu (by omega) hcut (vs := [_]) rfl rfl rfl rfl) rfl ?_)))))))
       refine Zg (Zbl rfl rfl rfl) rfl (Zf (ρ' := [(0, _), (5, _), (6, _), (7, _), (8, _), (48, _)]) ⟨rfl, rfl, rfl, rfl, rfl, rfl, trivial⟩ ?_)
       refine Zd ?_
       refine Zbo rfl ((decide_eq_false hk3)) ?_
       refine Zv (Zah (Zd (Zb (ym rfl rfl (Zg (Zap rfl rfl rfl (Zk (by omega))) rfl ?_)))))
       refine ya rfl rfl (Zf (ρ' := [(0, _), (5, _), (6, _), (7, _), (8, _)]) ⟨rfl, rfl, rfl, rfl, rfl, trivial⟩ ?_)
       refine Zab ?_
       refine ⟨m - 1, [(0, _), (5, _), (6, _), (7, _), (8, _)], [], by omega, ⟨rfl, rfl, rfl, rfl, rfl, trivial⟩, trivial, i + 1, by omega, hle7, (by first | rfl | simp), (by rw [hTs] <;> first | rfl | (simp only [List.cons.injEq, Prod.mk.injEq, SV.v.injEq, Value.int.injEq, true_and, and_true]; omega)), ?_⟩
       trivial
      ·
       have h9 := of_decide_eq_false hb9
       rw [if_neg h9, Nat.add_zero] at hTs
       refine Zv (Zd (Ze (Zb (ym rfl rfl (ym rfl rfl (Zg (Zs rfl Tryd.s26 rfl rfl hXu rfl (by omega)) rfl (Zg (Zbc rfl Tryd.f51' rfl (by decide) rfl) rfl ?_)))))))
       refine Zg (Zr rfl Tryd.k3 rfl hXu (by omega) hcut (vs := [_]) rfl rfl rfl rfl) rfl (Zg (Zbl rfl rfl rfl) rfl (Zf (ρ' := [(0, _), (5, _), (6, _), (7, _), (8, _), (48, _)]) ⟨rfl, rfl, rfl, rfl, rfl, rfl, trivial⟩ ?_))
       refine Zd ?_
       refine Zbo rfl ((decide_eq_false hk3)) ?_
       refine Zv (Zah (Zd (Zb (ym rfl rfl (Zg (Zap rfl rfl rfl (Zk (by omega))) rfl ?_)))))
       refine ya rfl rfl (Zf (ρ' := [(0, _), (5, _), (6, _), (7, _), (8, _)]) ⟨rfl, rfl, rfl, rfl, rfl, trivial⟩ ?_)
       refine Zab ?_
       refine ⟨m - 1, [(0, _), (5, _), (6, _), (7, _), (8, _)], [], by omega, ⟨rfl, rfl, rfl, rfl, rfl, trivial⟩, trivial, i + 1, by omega, hle7, (by first | rfl | simp), (by rw [hTs] <;> first | rfl | (simp only [List.cons.injEq, Prod.mk.injEq, SV.v.injEq, Value.int.injEq, true_and, and_true]; omega)), ?_⟩
       trivial
     ·
      have h7 := of_decide_eq_false hb7
      rw [List.take_of_length_le (by omega)]
      refine Zan ?_
      refine Zh (Zh ?_)
      refine Zu ?_
      refine Zd (Ze (Zb (ym rfl rfl (ym rfl rfl (Zg (Zx rfl rfl Tryd.s22 rfl) rfl (Zg (Zbl rfl rfl rfl) rfl ?_))))))
      rw [decide_eq_true (by omega)]
      refine ym rfl rfl (Zp rfl rfl (ym rfl rfl (Zp rfl rfl (Zg (Zx rfl rfl Tryd.s26 rfl) rfl (Zp rfl rfl (ym rfl rfl (Zp rfl rfl ?_)))))))
      refine Zg (Zx rfl rfl Tryd.s22 rfl) rfl (Zp rfl rfl (Zg (Zbl rfl rfl rfl) rfl ?_))
      rw [decide_eq_true (by omega)]
      refine Zg (Zo rfl rfl rfl) rfl (ym rfl rfl (Zp rfl rfl (Zt rfl rfl ?_)))
      refine Zac (caps := []) trivial rfl rfl Tryd.c11 rfl (FnP.mono (awake_fn u' (hT.mono (hleA.trans (hleB.trans hle7)))) ?_)
      rintro v u1 hle1 rfl
      refine Zg (Zo rfl rfl rfl) rfl (ya rfl rfl (Zf (ρ' := [(4, _)]) ⟨rfl, trivial⟩ ?_))
      refine Zd (Zaj (Zbf (.tmp rfl) ?_))
      rfl
def lineB (l : List Inl) : Blk := .mk 0 0 [] [] [] [] attr0 l []
theorem lineB_C {u : View} {l : List Inl} {vl : Value} (hl : l.length ≤ 140737488351232) (h : InlS u vl l) : BlkC u (lineB l) [.int .i64 0, .int .i64 0, str [], str [], str [], str [], str [], nilV, nilV, vl, nilV] :=
 BlkC.mk' (a := attr0) (nilStr _) (nilPr _) h (nilBlk _) ⟨intOk_of (by decide), intOk_of (by decide), by decide, by decide, by decide, by decide, attrOk0, hl, by decide⟩
theorem line_sm {l : List Inl} (h : DSm ⟨[], [lineB l]⟩) : szI l ≤ 120 ∧ smI l := by
 obtain ⟨-, -, h1, h2⟩ := h
 refine ⟨?_, ?_⟩
 ·
  simp [lineB, szB, szb] at h1; omega
 ·
  simp [lineB, smB, smB1] at h2; exact h2.2.2.2
theorem eI_bound {l : List Inl} {u : View} {v : Value} (hs : szI l ≤ 120) (hsm : smI l) (ha : InlS u v l) : ∀ x ∈ l, (eI x).length ≤ 10000000000 := by
 obtain ⟨cs, -, hc⟩ := ha
 intro x hx
 obtain ⟨i, hi⟩ := List.getElem?_of_mem hx
 have e1 := eI_le x _ (hc.get i x hi) (smI_get hsm hi)
 have e2 := szI_get hi
 have e3 : 1100000 * sz1 x ≤ 1100000 * 120 := Nat.mul_le_mul_left _ (by omega)
 omega
set_option maxHeartbeats 8000000 in
theorem diffWords_fn (l : List Inl) (hln : l.length ≤ 140737488351232) (v : Value) (u : View) (hT : TabU u) (ha : InlS u v l) :
  FnP Tryd.prog 5 [v] u fun r _ => r = .bool true := by
 obtain ⟨hwp1, hwp2⟩ := words_parts l
 have ha2 := ha
 obtain ⟨csA, ⟨aA, cA, rfl, hA⟩, hcA⟩ := ha2
 refine FnP.intro [.tmp 2] Tryd.func5 rfl rfl rfl ?_
 intro w0 D hw0
 refine Ze (Zb (ya rfl rfl (Zf (ρ' := [(0, _)]) ⟨rfl, trivial⟩ ?_)))
 refine Zd (Ze (Ze (Zb (ym rfl rfl (Zg (Zbh rfl Tryd.f39' Tryd.z39 (ps := [(_, _)]) rfl (vs := [_, _, _, _, _, _, _, _, _, _, _]) rfl) rfl ?_)))))
 refine Zt rfl rfl ?_
 refine Zai trivial Tryd.s29 Tryd.z39 (ps := [(_, _)]) rfl (xs := [_, _, _, _, _, _, _, _, _, _, _]) rfl rfl rfl rfl rfl rfl rfl ?_
 refine Zaz 8 rfl ?_
 intro ad8 cap8 u8 hle8z hsl8
 refine Zg (Zbh rfl Tryd.f31' Tryd.z31 (ps := [(_, _)]) rfl (vs := [_, _]) rfl) rfl ?_
 refine Zt rfl rfl ?_
 refine Zac (caps := []) trivial rfl rfl Tryd.c15 rfl (FnP.mono (small_fn ⟨[], [lineB l]⟩ _ _ u8 (nilPr _) ⟨_, ⟨_, _, rfl, hsl8⟩, BlksC.one (lineB_C hln (ha.mono hle8z))⟩ ⟨⟨by simp, by simp⟩, by simp⟩) ?_)
 rintro v u1 hle1 ⟨bs, rfl, hbs⟩
 refine Zg (y_not rfl rfl) rfl (Zf (ρ' := [(0, _), (11, _)]) ⟨rfl, rfl, trivial⟩ ?_)
 refine Zd ?_
 refine Zw rfl (fun hb1 => ?_) (fun hb1 => ?_)
 ·
  skip
  refine Ze (Zb (Zt rfl rfl ?_))
  refine Zac (caps := []) trivial rfl rfl Tryd.c11 rfl (FnP.mono (awake_fn u8 (hT.mono hle8z)) ?_)
  rintro v u1 hle1 rfl
  refine ya rfl rfl (Zf (ρ' := [(2, _)]) ⟨rfl, trivial⟩ ?_)
  refine Zd (Zaj (Zm (Zbf (.tmp rfl) ?_)))
  rfl
 ·
  obtain ⟨hs1, hs2⟩ := line_sm (hbs (by cases bs; cases hb1; rfl))
  have hln2 := len_szI l
  have hwl := words_len hs2
  refine Zv (Zd (Ze (Zb (ym rfl rfl (Zt rfl rfl ?_)))))
  refine Zba (caps := []) trivial rfl rfl Tryd.c18 rfl (FnP.mono (words_fn l (by omega) hs2 (eI_bound hs1 hs2 ha) _ u8 (hT.mono hle8z) (ha.mono hle8z)) ?_)
  rintro v uA hle0 hW hleA
  obtain ⟨aW, cW, rfl, hW⟩ := hW
  refine ym rfl rfl (Zt rfl rfl ?_)
  refine Zba (caps := []) trivial rfl rfl Tryd.c19 rfl (FnP.mono (parts_fn l (by omega) hs2 _ uA (ha.mono (hle8z.trans hleA))) ?_)
  rintro v uB hle0 hP hleB
  obtain ⟨csP, ⟨aP, cP, rfl, hP⟩, hcP⟩ := hP
  refine ya rfl rfl (ya rfl rfl (Zf (ρ' := [(3, _), (4, _)]) ⟨rfl, rfl, trivial⟩ ?_))
  refine Zd (Ze (Ze (Zb (ym rfl rfl (Zg (Zx rfl rfl Tryd.s22 rfl) rfl (ym rfl rfl (Zg (Zx rfl rfl Tryd.s35 rfl) rfl ?_)))))))
  refine Zg (y_neq rfl rfl rfl) rfl (Zf (ρ' := [(3, _), (4, _), (21, _)]) ⟨rfl, rfl, rfl, trivial⟩ ?_)
  refine Zd ?_
  refine Zbo rfl ((decide_eq_false (by rw [hwp1]; exact fun h => h rfl))) ?_
  refine Zv (Zd (Ze (Ze (Zb (ya rfl rfl (Zf (ρ' := [(3, _), (4, _), (5, _)]) ⟨rfl, rfl, rfl, trivial⟩ ?_))))))
  refine Zd (Zq ?_)
  refine Zaq (fun m_0 ρ σ u' => ∃ i : Nat, i + m_0 = (wordsL l).length ∧ VLe uB u' ∧ σ = [] ∧ ρ = [(3, .v (.slice aW (wordsL l).length cW)), (4, .v (.slice aP (partsL l).length cP)), (5, .v (.int .i64 (i : Nat)))] ∧ (True)) ((wordsL l).length) ?_ ?_
  ·
   refine ⟨[(3, _), (4, _), (5, _)], [], ⟨rfl, rfl, rfl, trivial⟩, trivial, 0, by omega, VLe.refl _, (by first | rfl | simp), (by first | rfl | (simp only [List.cons.injEq, Prod.mk.injEq, SV.v.injEq, Value.int.injEq, true_and, and_true]; omega) | simp), ?_⟩
   trivial
  ·
   rintro m ρ σ u' ⟨i, hi7, hle7, rfl, rfl, hinv7⟩
   refine Ze (Ze ?_)
   refine Zbd 31 (decide (i < (wordsL l).length)) (ρk := [(3, _), (4, _), (5, _)]) ⟨rfl, rfl, rfl, trivial⟩ ?_ ?_
   ·
    refine Zb (ym rfl rfl (ym rfl rfl (Zg (Zx rfl rfl Tryd.s22 rfl) rfl (Zg (Zav rfl rfl rfl) rfl (ym rfl rfl ?_)))))
    refine Zar 26 rfl (fun hg7_4 => ?_) (fun hg7_4 => ?_)
    ·
     refine Zp rfl rfl (ym rfl rfl (Zp rfl rfl (ym rfl rfl (Zp rfl rfl (Zg (Zx rfl rfl Tryd.s35 rfl) rfl (Zp rfl rfl (Zg (Zav rfl rfl rfl) rfl ?_)))))))
     refine Zg (Zo rfl rfl rfl) rfl ?_
     exact Zam rfl ⟨rfl, rfl, rfl, trivial⟩ (by
     first
     | (refine (decide_eq_false fun h => ?_).symm; have := of_decide_eq_false hg7_4; omega)
     | (refine decide_eq_decide.2 ?_; have := of_decide_eq_true hg7_4; omega))
    ·
     iterate 4 refine Zaf rfl rfl rfl rfl ?_
     refine Zg (Zad rfl rfl rfl) rfl ?_
     exact Zam rfl ⟨rfl, rfl, rfl, trivial⟩ (by
     first
     | (refine (decide_eq_false fun h => ?_).symm; have := of_decide_eq_false hg7_4; omega)
     | (refine decide_eq_decide.2 ?_; have := of_decide_eq_true hg7_4; omega))
   refine Zd ?_
   refine Zw rfl (fun hb7 => ?_) (fun hb7 => ?_)
   ·
    have h7 := of_decide_eq_true hb7
    obtain ⟨w, hw⟩ : ∃ w, (wordsL l)[i]? = some w := ⟨_, List.getElem?_eq_getElem (by omega)⟩
    have hcw := strsC_cut hw
    obtain ⟨k, t, d, ti, a, args, cites, kids, vc, vp, va, vt, vk, hg, hcut, -⟩ := hcP.at (i := i) (by omega)
    have hok : wordOk (.mk k t d ti a args cites kids) w := hwp2 i _ w hg hw
    have hok2 : if k = 1 then w = t else w.head? = some 10 := hok
    have hWu := (hW.mono hleB).mono hle7
    have hPu := hP.mono hle7
    refine Zv (Zd (Ze (Zq (Ze (Zb (ym rfl rfl (ym rfl rfl ?_)))))))
    refine Zg (Zs rfl Tryd.s35 rfl rfl hPu rfl (by omega)) rfl (Zg (Zbc rfl Tryd.f44' rfl (by decide) rfl) rfl (Zg (Zr rfl Tryd.k3 rfl hPu (by omega) hcut (vs := [_]) rfl rfl rfl rfl) rfl (Zg (Zbl rfl rfl rfl) rfl (Zf (ρ' := [(3, _), (4, _), (5, _), (39, _)]) ⟨rfl, rfl, rfl, rfl, trivial⟩ ?_))))
    refine Zd ?_
    refine Zw rfl (fun hb9 => ?_) (fun hb9 => ?_)
    ·
     have h9 := of_decide_eq_true hb9
     rw [if_pos h9] at hok2
     refine Ze ?_
     refine Zbb Tryd.mixed rfl [] trivial ?_
     refine Zak 0 rfl (by kernel_rfl) (Za (Zc (Za (Za (Zc (Za (Zn))))))) (Zae rfl rfl) rfl (Zak 1 rfl (by kernel_rfl) (Za (Zc (Za (Za (Zc (Za (Zn))))))) (Zae rfl rfl) rfl ?_)
     refine Zak 2 rfl (by kernel_rfl) (Za (Zc (Za (Za (Zc (Za (Zn))))))) (Zs rfl Tryd.s22 rfl rfl hWu rfl (by omega)) rfl ?_
     refine Zak 3 rfl (by kernel_rfl) (Za (Zc (Za (Za (Zc (Za (Zn))))))) (Zr rfl Tryd.k9 rfl hWu (by omega) hcw (vs := [_]) rfl rfl rfl rfl) rfl ?_
     refine Zak 4 rfl (by kernel_rfl) (Za (Zc (Za (Za (Zc (Za (Zn))))))) (Zae rfl rfl) rfl (Zak 5 rfl (by kernel_rfl) (Za (Zc (Za (Za (Zc (Za (Zn))))))) (Zae rfl rfl) rfl ?_)
     refine Zak 6 rfl (by kernel_rfl) (Za (Zc (Za (Za (Zc (Za (Zn))))))) (Zs rfl Tryd.s35 rfl rfl hPu rfl (by omega)) rfl ?_
     refine Zak 7 rfl (by kernel_rfl) (Za (Zc (Za (Za (Zc (Za (Zn))))))) (Zbc rfl Tryd.f44' rfl (by decide) rfl) rfl ?_
     refine Zak 8 rfl (by kernel_rfl) (Za (Zc (Za (Za (Zc (Za (Zn))))))) (Zr rfl Tryd.k9 rfl hPu (by omega) hcut (vs := [_]) rfl rfl rfl rfl) rfl ?_
     refine Zak 9 rfl (by kernel_rfl) (Za (Zc (Za (Za (Zc (Za (Zn))))))) (Zbp rfl rfl rfl) rfl ?_
     refine Zbn (by kernel_rfl) (ρ' := [(3, _), (4, _), (5, _), (49, _)]) ⟨rfl, rfl, rfl, rfl, trivial⟩ ?_
     refine Zd ?_
     refine Zbo rfl ((decide_eq_false fun h => h hok2)) ?_
     refine Zv (Zah (Zd (Zb (ym rfl rfl (Zg (Zap rfl rfl rfl (Zk (by omega))) rfl ?_)))))
     refine ya rfl rfl (Zf (ρ' := [(3, _), (4, _), (5, _)]) ⟨rfl, rfl, rfl, trivial⟩ ?_)
     refine Zab ?_
     refine ⟨m - 1, [(3, _), (4, _), (5, _)], [], by omega, ⟨rfl, rfl, rfl, trivial⟩, trivial, i + 1, by omega, hle7, (by first | rfl | simp), (by first | rfl | (simp only [List.cons.injEq, Prod.mk.injEq, SV.v.injEq, Value.int.injEq, true_and, and_true]; omega) | simp), ?_⟩
     trivial
    ·
     have h9 := of_decide_eq_false hb9
     rw [if_neg h9] at hok2
     obtain ⟨w', hw'⟩ : ∃ r, w = 10 :: r := by
      cases w with
      | nil => cases hok2
      | cons c r => rw [List.head?_cons, Option.some.injEq] at hok2; exact ⟨r, by rw [hok2]⟩
     have hwc : w[0]? = some 10 := by rw [hw']; rfl
     refine Ze ?_
     refine Zbd 62 (false) (ρk := [(3, _), (4, _), (5, _)]) ⟨rfl, rfl, rfl, trivial⟩ ?_ ?_
     ·
      refine Zb (ym rfl rfl (ym rfl rfl (Zg (Zs rfl Tryd.s22 rfl rfl hWu rfl (by omega)) rfl (Zg (Zr rfl Tryd.k9 rfl hWu (by omega) hcw (vs := [_]) rfl rfl rfl rfl) rfl (Zg (y_str_eql rfl rfl rfl) rfl (ym rfl rfl ?_))))))
      refine Zar 55 rfl (fun hg12_5 => ?_) (fun hg12_5 => ?_)
      ·
       iterate 6 refine Zaf rfl rfl rfl rfl ?_
       refine Zg (Zo rfl rfl rfl) rfl ?_
       exact Zam rfl ⟨rfl, rfl, rfl, trivial⟩ (by
       first
       | rfl
       | (have := of_decide_eq_true hg12_5; rw [hw'] at this; cases this))
      ·
       refine Zp rfl rfl (ym rfl rfl (Zp rfl rfl (ym rfl rfl (Zp rfl rfl (Zg (Zs rfl Tryd.s22 rfl rfl hWu rfl (by omega)) rfl (Zp rfl rfl (Zg (Zr rfl Tryd.k9 rfl hWu (by omega) hcw (vs := [_]) rfl rfl rfl rfl) rfl ?_)))))))
       refine Zp rfl rfl (Zg (y_index_str rfl Tryd.str9 rfl rfl (j := 0) rfl hwc) rfl (Zp rfl rfl (Zg (y_neq rfl rfl rfl) rfl (Zg (Zad rfl rfl rfl) rfl ?_))))
       exact Zam rfl ⟨rfl, rfl, rfl, trivial⟩ (by
       first
       | rfl
       | (have := of_decide_eq_true hg12_5; rw [hw'] at this; cases this))
     refine Zd (Zbo rfl (rfl) (Zv (Zah (Zd (Zb (ym rfl rfl (Zg (Zap rfl rfl rfl (Zk (by omega))) rfl ?_)))))))
     refine ya rfl rfl (Zf (ρ' := [(3, _), (4, _), (5, _)]) ⟨rfl, rfl, rfl, trivial⟩ ?_)
     refine Zab ?_
     refine ⟨m - 1, [(3, _), (4, _), (5, _)], [], by omega, ⟨rfl, rfl, rfl, trivial⟩, trivial, i + 1, by omega, hle7, (by first | rfl | simp), (by first | rfl | (simp only [List.cons.injEq, Prod.mk.injEq, SV.v.injEq, Value.int.injEq, true_and, and_true]; omega) | simp), ?_⟩
     trivial
   ·
    skip
    refine Zan ?_
    refine Zh (Zh ?_)
    refine Zu ?_
    refine Zd (Ze (Zb (Zt rfl rfl ?_)))
    refine Zac (caps := []) trivial rfl rfl Tryd.c11 rfl (FnP.mono (awake_fn u' (hT.mono (hle8z.trans (hleA.trans (hleB.trans hle7))))) ?_)
    rintro v u1 hle1 rfl
    refine ya rfl rfl (Zf (ρ' := [(2, _)]) ⟨rfl, trivial⟩ ?_)
    refine Zd (Zaj (Zbf (.tmp rfl) ?_))
    rfl
end Go.Proofs.Ytekkhlepbacapaa
