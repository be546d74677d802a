/- Count: the counters by kind. -/
import Derived.Test.YthnboadnehbciaaDoorCntN
import Derived.Test.YthnboadnehbciaaDoorDocM
namespace Go.Proofs.Ythnboadnehbciaa
open Go Go.Eng
set_option linter.unusedSimpArgs false
set_option linter.unusedVariables false
set_option maxRecDepth 4000

def CtrM (kvs : List (Value × Value)) (c : Bs → Nat) : Prop := SKeys kvs ∧ ∀ s, (mget kvs (str s)).getD (.int .i64 0) = .int .i64 (c s : Nat)
def upC (c : Bs → Nat) (k : Bs) : Bs → Nat := fun s => if s = k then c k + 1 else c s
theorem CtrM.up {kvs : List (Value × Value)} {c : Bs → Nat} (h : CtrM kvs c) (k : Bs) : CtrM (mset kvs (str k) (.int .i64 ((c k : Int) + 1))) (upC c k) := by
  refine ⟨h.1.mset, fun s => ?_⟩
  rw [mget_mset _ _ _ _ h.1]
  unfold upC
  by_cases e : s = k
  · rw [if_pos e, if_pos e]; rfl
  · rw [if_neg e, if_neg e]; exact h.2 s
abbrev cntV (b5 : Nat) : Value := .func (.func 27) #[] #[.pointer (some ⟨b5, 0, none⟩)]
theorem count_fn (b5 bm : Nat) (kvs : List (Value × Value)) (c : Bs → Nat) (k : Bs) (hc : c k ≤ 1000000) (u : View) (hT : TabU u) (hM : CtrM kvs c) :
    FnO Tryd.prog 27 [str k, .pointer (some ⟨b5, 0, none⟩)] u [(some b5, .box [.map (some bm)]), (some bm, .mp kvs)]
      fun r u' l' => r = str (dec (c k + 1)) ∧ ∃ kvs', l' = [(some b5, .box [.map (some bm)]), (some bm, .mp kvs')] ∧ CtrM kvs' (upC c k) := by
  have hk1 := hM.1
  have hk2 := (hM.up k).1
  unfold SKeys at hk1 hk2
  refine FnO.intro [.tmp 3] Tryd.func27 rfl rfl rfl ?_
  intro w0 D hw0
  refine wc_pin 1 1000 _ 0 rfl rfl ?_
  refine wc_seq ?_
  refine wc_region ?_
  refine rl_y (y_assign rfl rfl) rfl ?_
  refine rl_end (ρ' := [(0, _), (1, _)]) ⟨rfl, rfl, trivial⟩ ?_
  refine q_then ?_
  refine wc_seq ?_
  refine wc_region ?_
  refine rl_y (y_load_bm (id2 := 1001) rfl Tryd.k62 rfl rfl rfl rfl rfl) rfl ?_
  refine rl_y (y_move rfl rfl) rfl ?_
  refine rl_y (y_lookup rfl Tryd.m62 Tryd.str9 Tryd.v3 rfl rfl rfl rfl rfl (by assumption)) rfl ?_
  rw [hM.2 k]
  refine rl_y (y_add rfl rfl rfl (wrap64_id (by omega))) rfl ?_
  refine rl_do rfl rfl ?_
  refine do_mapUpdate trivial rfl Tryd.m62 Tryd.str9 rfl rfl rfl rfl rfl (by assumption) ?_
  refine rl_end (ρ' := [(0, _), (1, _)]) ⟨rfl, rfl, trivial⟩ ?_
  refine q_then ?_
  refine wc_seq ?_
  refine wc_region ?_
  refine rl_y (y_load_bm (id2 := 1001) rfl Tryd.k62 rfl rfl rfl rfl rfl) rfl ?_
  refine rl_y (y_move rfl rfl) rfl ?_
  refine rl_y (y_lookup rfl Tryd.m62 Tryd.str9 Tryd.v3 rfl rfl rfl rfl rfl (by assumption)) rfl ?_
  rw [(hM.up k).2 k, show upC c k k = c k + 1 from if_pos rfl]
  refine rl_do rfl rfl ?_
  refine do_call_f (caps := []) trivial rfl rfl Tryd.c28 rfl (FnP.mono (itoa_fn (c k + 1) (by omega) u hT) ?_)
  rintro v u1 hle1 rfl
  refine rl_y (y_assign rfl rfl) rfl ?_
  refine rl_end (ρ' := [(3, _)]) ⟨rfl, trivial⟩ ?_
  refine q_then ?_
  refine wc_ret ?_
  refine finO1 [1000, 1001] (.tmp rfl) rfl rfl ?_
  exact ⟨rfl, _, rfl, hM.up k⟩
end Go.Proofs.Ythnboadnehbciaa
