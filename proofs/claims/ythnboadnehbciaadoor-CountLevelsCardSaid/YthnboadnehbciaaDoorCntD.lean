/- Count: numbers as texts. -/
import Derived.Test.YthnboadnehbciaaDoorCntC
import Derived.Test.YthnboadnehbciaaDoorEngShelf
import Derived.Test.YthnboadnehbciaaDoorShelf
import Derived.Below
import Derived.Deep.Draws
import Derived.Sort.Grow
namespace Go.Proofs.Ythnboadnehbciaa
open Go Go.Eng
set_option linter.unusedSimpArgs false
set_option linter.unusedVariables false
set_option maxRecDepth 4000

/-- the table of strconv lies in the view -/
def TabU (u : View) : Prop := ∃ T fr, u 0 = some (.cells ((Lib.pow10Tab).map (Value.int .u64)).toArray T fr)
theorem TabU.mono {u u' : View} (h : TabU u) (hu : VLe u u') : TabU u' := let ⟨T, fr, h1⟩ := h; ⟨T, fr, hu _ _ h1⟩
theorem gTab : Tryd.prog.globalNamed "internal/strconv.uint64pow10" = some 0 := by kernel_rfl
theorem tabIs_of {u : View} {w : World} (h : TabU u) (hA : Agree u w) : Lib.TabIs Tryd.prog w "internal/strconv.uint64pow10" .u64 Lib.pow10Tab := by
  obtain ⟨T, fr, h1⟩ := h
  have := hA _ _ h1
  unfold Lib.TabIs World.var?
  rw [gTab]
  simp [this]

abbrev dec (n : Nat) : Bs := Lib.decDigits n
theorem dec_small {n : Nat} (h : n < 10) : dec n = [UInt8.ofNat (48 + n)] := by unfold dec; rw [Lib.decDigits, dif_pos h]
theorem dec_big {n : Nat} (h : ¬ n < 10) : dec n = dec (n / 10) ++ [UInt8.ofNat (48 + n % 10)] := by unfold dec; rw [Lib.decDigits, dif_neg h]
theorem dec_len : ∀ n : Nat, (dec n).length ≤ n + 1 := by
  intro n
  induction n using Nat.strongRecOn with
  | _ n ih =>
    by_cases h : n < 10
    · rw [dec_small h]; simp
    · rw [dec_big h]
      have := ih (n / 10) (by omega)
      simp only [List.length_append, List.length_cons, List.length_nil]
      omega

theorem grow_below (w : World) (k : Nat) (os : Array Obj) : RowKit.Below w.heap.size w (Sort.grow (w.drewN k) os) := by
  refine ⟨rfl, rfl, rfl, by simp [Sort.grow, World.drewN], fun i hi => ?_⟩
  simp [Sort.grow, World.drewN, Array.getElem?_append, hi]
theorem itoa_fn (n : Nat) (hn : n ≤ 9223372036854775807) (u : View) (ht : TabU u) : FnP Tryd.prog 28 [.int .i64 n] u fun v _ => v = str (dec n) := by
  refine FnP.of_calls fun w hA => (Tryd.strconv_Itoa n (by omega) (by omega) w (tabIs_of ht hA)).mono ?_
  rintro e w' ⟨rfl, k, os, rfl⟩
  refine ⟨_, rfl, ?_, grow_below w k os⟩
  simp [Lib.itoa, str, dec]

def digs : Bs := [48, 49, 50, 51, 52, 53, 54, 55, 56, 57]
theorem digs_cut : ∀ i, i < 10 → ((digs.drop i).take (i + 1 - i)) = [UInt8.ofNat (48 + i)] := by decide
theorem y_dig {F : Fx} {ρ : Env} {σ σS : Own} {u uS : View} {o : Oper} {t : TypeId} {lo hi : Operand} {i : Nat} (ho : o.op = .slice t (.const (str digs)) (some lo) (some hi) none) (hS : F.P.underlying t = some .string)
    (hlo : opv ρ lo = some (.v (.int .i64 (i : Int)))) (hhi : opv ρ hi = some (.v (.int .i64 ((i + 1 : Nat) : Int)))) (h : i < 10) : Yld F σS uS ρ σ u o (.v (str [UInt8.ofNat (48 + i)])) := by
  have := y_slice_str (F := F) (ρ := ρ) (σS := σS) (uS := uS) (u := u) (σ := σ) (l := digs) (i := i) (j := i + 1) ho hS rfl hlo hhi (by omega) (by simp [digs]; omega)
  rwa [digs_cut i h] at this

theorem num_fn (n : Nat) : n ≤ 1000000 → ∀ u : View, FnP Tryd.prog 35 [.int .i64 n] u fun v _ => v = str (dec n) := by
  induction n using Nat.strongRecOn with
  | _ n ih =>
  intro hn u
  refine FnP.intro [.tmp 2] Tryd.func35 rfl rfl rfl ?_
  intro w0 D hw0
  refine wc_seq ?_
  refine wc_region ?_
  refine rl_y (y_assign rfl rfl) rfl ?_
  refine rl_end (ρ' := [(0, _)]) ⟨rfl, trivial⟩ ?_
  refine q_then ?_
  refine wc_seq ?_
  refine wc_region ?_
  refine rl_y (y_move rfl rfl) rfl ?_
  refine rl_y (y_remE rfl rfl rfl (by omega) (by omega)) rfl ?_
  refine rl_y (y_move rfl rfl) rfl ?_
  refine rl_y (y_remE rfl rfl rfl (by omega) (by omega)) rfl ?_
  refine rl_y (y_add rfl rfl rfl (wrap64_id (by omega))) rfl ?_
  refine rl_y (y_dig (i := n % 10) rfl Tryd.str9 rfl rfl (by omega)) rfl ?_
  refine rl_y (y_assign rfl rfl) rfl ?_
  refine rl_end (ρ' := [(0, _), (3, _)]) ⟨rfl, rfl, trivial⟩ ?_
  refine q_then ?_
  refine wc_seq ?_
  refine wc_seq ?_
  refine wc_region ?_
  refine rl_y (y_move rfl rfl) rfl ?_
  refine rl_y (y_lss rfl rfl rfl) rfl ?_
  refine rl_end (ρ' := [(0, _), (3, _), (11, _)]) ⟨rfl, rfl, rfl, trivial⟩ ?_
  refine q_then ?_
  refine wc_cond rfl (fun hb2 => ?_) (fun hb2 => ?_)
  ·
    refine wc_seq ?_
    refine wc_region ?_
    refine rl_y (y_move rfl rfl) rfl ?_
    refine rl_y (y_assign rfl rfl) rfl ?_
    refine rl_end (ρ' := [(2, _)]) ⟨rfl, trivial⟩ ?_
    refine q_then ?_
    refine wc_ret ?_
    refine q_then_ret ?_
    refine fin1 (.tmp rfl) ?_
    have h := of_decide_eq_true hb2; rw [dec_small (by omega), Nat.mod_eq_of_lt (by omega)]
  ·
    refine wc_skip ?_
    refine q_then ?_
    refine wc_seq ?_
    refine wc_region ?_
    refine rl_y (y_move rfl rfl) rfl ?_
    refine rl_y (y_quoE rfl rfl rfl (by omega) (by omega) (by omega)) rfl ?_
    refine rl_do rfl rfl ?_
    refine do_call_f (caps := []) trivial rfl rfl Tryd.c35 rfl (FnP.mono (ih (n / 10) (by have h := of_decide_eq_false hb2; omega) (by omega) u) ?_)
    rintro v u1 hle1 rfl
    refine rl_y (y_move rfl rfl) rfl ?_
    refine rl_y (y_str_add rfl rfl rfl (by have := dec_len (n / 10); simp; omega)) rfl ?_
    refine rl_y (y_assign rfl rfl) rfl ?_
    refine rl_end (ρ' := [(2, _)]) ⟨rfl, trivial⟩ ?_
    refine q_then ?_
    refine wc_ret ?_
    refine fin1 (.tmp rfl) ?_
    have h := of_decide_eq_false hb2; rw [dec_big (n := n) (by omega)]

/-- what stands ahead of the last digit -/
def decHi (n : Nat) : Bs := if n < 10 then [] else dec (n / 10)
theorem dec_hi (n : Nat) : dec n = decHi n ++ [UInt8.ofNat (48 + n % 10)] := by
  unfold decHi
  by_cases h : n < 10
  · rw [dec_small h, if_pos h, Nat.mod_eq_of_lt h]; rfl
  · rw [dec_big h, if_neg h]
theorem lawnum_fn (n : Nat) (hn : n ≤ 1000000) (u : View) : FnP Tryd.prog 41 [.int .i64 n] u fun v _ => v = str (dec n) := by
  refine FnP.intro [.tmp 2] Tryd.func41 rfl rfl rfl ?_
  intro w0 D hw0
  refine wc_seq ?_
  refine wc_region ?_
  refine rl_y (y_assign rfl rfl) rfl ?_
  refine rl_end (ρ' := [(0, _)]) ⟨rfl, trivial⟩ ?_
  refine q_then ?_
  refine wc_seq ?_
  refine wc_region ?_
  refine rl_y (y_move rfl rfl) rfl ?_
  refine rl_y (y_remE rfl rfl rfl (by omega) (by omega)) rfl ?_
  refine rl_y (y_move rfl rfl) rfl ?_
  refine rl_y (y_remE rfl rfl rfl (by omega) (by omega)) rfl ?_
  refine rl_y (y_add rfl rfl rfl (wrap64_id (by omega))) rfl ?_
  refine rl_y (y_dig (i := n % 10) rfl Tryd.str9 rfl rfl (by omega)) rfl ?_
  refine rl_y (y_assign rfl rfl) rfl ?_
  refine rl_end (ρ' := [(0, _), (3, _)]) ⟨rfl, rfl, trivial⟩ ?_
  refine q_then ?_
  refine wc_seq ?_
  refine wc_block ?_
  refine wc_loop (fun m ρ σ u' => ∃ s : Bs, m ≤ n ∧ s.length + m ≤ n + 1 ∧ dec n = decHi m ++ s ∧ σ = [] ∧ u = u' ∧ ρ = [(0, .v (.int .i64 m)), (3, .v (str s))]) n ?_ ?_
  ·
    exact ⟨[(0, _), (3, _)], [], ⟨rfl, rfl, trivial⟩, trivial, _, Nat.le_refl _, (by simp; omega), dec_hi n, rfl, rfl, rfl⟩
  ·
    rintro m ρ σ u' ⟨s, hm, hsl, hs, rfl, rfl, rfl⟩
    refine wc_seq ?_
    refine wc_seq ?_
    refine wc_region ?_
    refine rl_y (y_move rfl rfl) rfl ?_
    refine rl_y (y_geq rfl rfl rfl) rfl ?_
    refine rl_end (ρ' := [(0, _), (3, _), (11, _)]) ⟨rfl, rfl, rfl, trivial⟩ ?_
    refine q_then ?_
    refine wc_cond rfl (fun hb2 => ?_) (fun hb2 => ?_)
    ·
      refine wc_skip ?_
      refine q_then ?_
      refine wc_block ?_
      refine wc_seq ?_
      have hge := of_decide_eq_true hb2
      refine wc_region ?_
      refine rl_y (y_move rfl rfl) rfl ?_
      refine rl_y (y_quoE rfl rfl rfl (by omega) (by omega) (by omega)) rfl ?_
      refine rl_y (y_assign rfl rfl) rfl ?_
      refine rl_end (ρ' := [(0, _), (3, _)]) ⟨rfl, rfl, trivial⟩ ?_
      refine q_then ?_
      refine wc_region ?_
      refine rl_y (y_move rfl rfl) rfl ?_
      refine rl_y (y_remE rfl rfl rfl (by omega) (by omega)) rfl ?_
      refine rl_y (y_move rfl rfl) rfl ?_
      refine rl_y (y_remE rfl rfl rfl (by omega) (by omega)) rfl ?_
      refine rl_y (y_add rfl rfl rfl (wrap64_id (by omega))) rfl ?_
      refine rl_y (y_dig (i := m / 10 % 10) rfl Tryd.str9 rfl rfl (by omega)) rfl ?_
      refine rl_y (y_move rfl rfl) rfl ?_
      refine rl_y (y_str_add rfl rfl rfl (by simp; omega)) rfl ?_
      refine rl_y (y_assign rfl rfl) rfl ?_
      refine rl_end (ρ' := [(0, _), (3, _)]) ⟨rfl, rfl, trivial⟩ ?_
      refine q_block ?_
      refine q_thenK ?_
      refine ⟨m / 10, [(0, _), (3, _)], [], by omega, ⟨rfl, rfl, trivial⟩, trivial, [UInt8.ofNat (48 + m / 10 % 10)] ++ s, by omega, by simp; omega, ?_, rfl, rfl, rfl⟩
      rw [hs, ← List.append_assoc, ← dec_hi (m / 10)]
      unfold decHi
      rw [if_neg (by omega)]
    ·
      refine wc_exit ?_
      refine q_then_exit ?_
      refine q_then_exit ?_
      refine q_block_hit ?_
      refine q_then ?_
      refine wc_seq ?_
      refine wc_region ?_
      refine rl_y (y_move rfl rfl) rfl ?_
      refine rl_y (y_assign rfl rfl) rfl ?_
      refine rl_end (ρ' := [(2, _)]) ⟨rfl, trivial⟩ ?_
      refine q_then ?_
      refine wc_ret ?_
      refine fin1 (.tmp rfl) ?_
      have hge := of_decide_eq_false hb2; rw [hs]; unfold decHi; rw [if_pos (by omega)]; rfl

theorem strS_of {u : View} {ad : Option Addr} {cap n : Nat} {xs : List Bs} (hn : n = xs.length) (h : SlC u ad n cap 1 (strsC xs)) : StrS u (.slice ad n cap) xs := by
  subst hn
  exact ⟨ad, cap, rfl, h⟩

def numsTo (k : Nat) : List Bs := (List.range k).map fun i => dec (i + 1)
theorem numsTo_succ (k : Nat) : numsTo (k + 1) = numsTo k ++ [dec (k + 1)] := by simp [numsTo, List.range_succ]
theorem numsTo_len (k : Nat) : (numsTo k).length = k := by simp [numsTo]
theorem lawnumbers_fn (n : Nat) (hn : n ≤ 100000) (u : View) : FnP Tryd.prog 18 [.int .i64 n] u fun v u' => StrS u' v (numsTo n) := by
  refine FnP.intro [.tmp 2] Tryd.func18 rfl rfl rfl ?_
  intro w0 D hw0
  refine wc_seq ?_
  refine wc_region ?_
  refine rl_y (y_assign rfl rfl) rfl ?_
  refine rl_end (ρ' := [(0, _)]) ⟨rfl, trivial⟩ ?_
  refine q_then ?_
  refine wc_seq ?_
  refine wc_region ?_
  refine rl_y (y_assign rfl rfl) rfl ?_
  refine rl_own_nil 3 503 9 1 rfl rfl rfl ?_
  refine rl_end (ρ' := [(0, _), (3, _)]) ⟨rfl, rfl, trivial⟩ ?_
  refine q_then ?_
  refine wc_seq ?_
  refine wc_seq ?_
  refine wc_region ?_
  refine rl_y (y_assign rfl rfl) rfl ?_
  refine rl_end (ρ' := [(0, _), (3, _), (4, _)]) ⟨rfl, rfl, rfl, trivial⟩ ?_
  refine q_then ?_
  refine wc_block ?_
  refine wc_loop (fun m ρ σ u' => ∃ i : Nat, i + m = n ∧ VLe u u' ∧ σ = [(503, (none, .row 9 1 i (strsC (numsTo i))))] ∧ ρ = [(0, .v (.int .i64 n)), (3, .s 503), (4, .v (.int .i64 (i + 1 : Nat)))] ∧ (u = u')) (n) ?_ ?_
  ·
    refine ⟨[(0, _), (3, _), (4, _)], [(503, _)], ⟨rfl, rfl, rfl, trivial⟩, ⟨rfl, trivial⟩, 0, by omega, VLe.refl _, (by rw [show numsTo 0 = [] from rfl]; rfl), rfl, ?_⟩
    rfl
  ·
    rintro m ρ σ u' ⟨i, hi3, hle3, rfl, rfl, rfl⟩
    refine wc_seq ?_
    refine wc_seq ?_
    refine wc_region ?_
    refine rl_y (y_move rfl rfl) rfl ?_
    refine rl_y (y_move rfl rfl) rfl ?_
    refine rl_y (y_leq rfl rfl rfl) rfl ?_
    refine rl_end (ρ' := [(0, _), (3, _), (4, _), (7, _)]) ⟨rfl, rfl, rfl, rfl, trivial⟩ ?_
    refine q_then ?_
    refine wc_cond rfl (fun hb3 => ?_) (fun hb3 => ?_)
    ·
      refine wc_skip ?_
      refine q_then ?_
      refine wc_seq ?_
      refine wc_block ?_
      have hle := of_decide_eq_true hb3
      refine wc_region ?_
      refine rl_y (y_move rfl rfl) rfl ?_
      refine rl_y (y_move rfl rfl) rfl ?_
      refine rl_do rfl rfl ?_
      refine do_call_f (caps := []) trivial rfl rfl Tryd.c41 rfl (FnP.mono (lawnum_fn (i + 1) (by omega) u) ?_)
      rintro v u1 hle1 rfl
      refine rl_do rfl rfl ?_
      refine do_buildSlice trivial Tryd.s32 Tryd.z9 (ps := [(_, _)]) rfl (xs := [_]) rfl rfl rfl rfl rfl rfl rfl ?_
      refine rl_do rfl rfl ?_
      refine do_append_s trivial rfl rfl Tryd.s32 Tryd.z9 rfl rfl rfl rfl rfl rfl (by first | rfl | exact oneAll | exact oneAll2 | simp [Value.oneCell', str]) (by omega) (by omega) (ρ' := [(0, _), (4, _)]) ⟨rfl, rfl, trivial⟩ rfl rfl rfl ?_
      refine rl_y (y_assign rfl rfl) rfl ?_
      refine rl_ren 14 503 rfl rfl rfl ?_
      refine rl_end (ρ' := [(0, _), (3, _), (4, _)]) ⟨rfl, rfl, rfl, trivial⟩ ?_
      refine q_block ?_
      refine q_then ?_
      refine wc_region ?_
      refine rl_y (y_move rfl rfl) rfl ?_
      refine rl_y (y_add rfl rfl rfl (wrap64_id (by omega))) rfl ?_
      refine rl_y (y_assign rfl rfl) rfl ?_
      refine rl_end (ρ' := [(0, _), (3, _), (4, _)]) ⟨rfl, rfl, rfl, trivial⟩ ?_
      refine q_thenK ?_
      refine ⟨m - 1, [(0, _), (3, _), (4, _)], [(503, _)], by omega, ⟨rfl, rfl, rfl, trivial⟩, ⟨rfl, trivial⟩, i + 1, by omega, hle3, (by rw [numsTo_succ]; simp [strsC]), (by first | rfl | simp), ?_⟩
      rfl
    ·
      refine wc_exit ?_
      refine q_then_exit ?_
      refine q_then_exit ?_
      refine q_block_hit ?_
      refine q_then ?_
      refine wc_seq ?_
      refine wc_region ?_
      refine rl_y (y_move rfl rfl) rfl ?_
      refine rl_y (y_assign rfl rfl) rfl ?_
      refine rl_freeze 503 rfl ?_
      intro ad503 cap503 u503 hle503z hsl503
      refine rl_end (ρ' := [(2, _)]) ⟨rfl, trivial⟩ ?_
      refine q_then ?_
      refine wc_ret ?_
      refine fin1 (.tmp rfl) ?_
      have hge := of_decide_eq_false hb3
      have hin : n = i := by omega
      subst hin
      exact strS_of (numsTo_len n).symm hsl503
end Go.Proofs.Ythnboadnehbciaa
