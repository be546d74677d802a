/- The engine: a body that defers one call of a closure which captures the result's variable and does nothing when the body returns. -/
import Derived.Test.YtchmiljeidkkpaaEngDraw
import Derived.Defers
namespace Go.Eng
open Go Go.RowKit

theorem FnP.intro_defer {P : Program} {f g : FuncId} {fn : Func} {c0 c1 : Code} {id : Nat} {m : Nat} {t : Nat} {T : TypeId} {ty ty2 : TypeId} {pos pos2 : String} {aft aft2 : Array Edge} {args : List Value} {u : View} {R : Value → View → Prop} {zs : List Value}
    (hf : P.funcs[f]? = some fn) (hb : fn.body = some (.seq c0 (.seq (.region id [⟨some m, .makeFunc (.func g) #[] #[.tmp t], ty, pos, aft, none⟩, ⟨none, .defer { callee := .value (.tmp m), args := #[], argTypes := #[] }, ty2, pos2, aft2, none⟩].toArray false) c1)))
    (hrs : fn.results = #[.cell t T]) (hn : Nat.ble args.length fn.ntmps = true) (hm : Nat.blt m fn.ntmps = true) (hg : canCall P g = true)
    (hidle : ∀ (p : Addr) (w : World), CallsD P g #[.pointer (some p)] .returning w fun e u' w' => e = .returned (.tuple #[]) ∧ u' = .returning ∧ w' = w)
    (K : Env → Own → View → Prop)
    (h0 : ∀ w0 : World, (∀ k o, u k = some o → k < w0.heap.size) → WC ⟨P, fn.ntmps, w0, [], u, []⟩ c0 (initE 0 args) [] u [] (fun e ρ σ u' μ' => e = .normal ∧ μ' = [] ∧ gv ρ t = some (.p t 0) ∧ gv σ t = some (.box zs) ∧ K ρ σ u'))
    (h1 : ∀ (w0 : World) (b : Nat) (Tb : TypeId) (d : Deferred) (ρ : Env) (σ : Own) (u' : View), K ρ σ u' → u' b = none → WC ⟨P, fn.ntmps, w0, [], u, [d]⟩ c1 ((m, .q) :: rev t b ρ) (Eng.rm t σ) u' [(b, .cells zs.toArray Tb (0, 0))]
      (fun e ρ' _ u'' μ' => (e = .normal ∨ e = .ret) ∧ gv ρ' t = some (.v (.pointer (some ⟨b, 0, none⟩))) ∧ ∃ (c : Array Value) (Tc : TypeId) (gg : Bool) (n : Nat) (vs : List Value) (z : Value), (b, Obj.cells c Tc (0, 0)) ∈ μ' ∧ tyK P T = some (gg, n) ∧ cut c.toList 0 n = vs ∧ vs.length = n ∧ packV gg vs = some z ∧ R z u'')) : FnP P f args u R := by
  intro w hA hM
  refine calls_of_wp_defers hf hb ?_
  have hinit : Rep ⟨P, fn.ntmps, w, [], u, []⟩ (initE 0 args) [] u [] { tmps := args.toArray ++ Array.replicate (fn.ntmps - args.toArray.size) undef, defers := [] } w := by
    refine ⟨fun _ => none, fun _ => undef, by have := Nat.le_of_ble_eq_true hn; simp; omega, rfl, Frame0.refl _ _, hA, fun _ _ => rfl, by simp, ?_, by simp [gv], by simp [gv], by simp [gv]⟩
    intro k sv hk
    obtain ⟨x, j, rfl, rfl, hj⟩ := gv_initE args 0 k sv hk
    refine ⟨x, ?_, rfl⟩
    have hlt : j < args.length := (List.getElem?_eq_some_iff.1 hj).1
    simp [Array.getElem?_append, hlt]; exact (List.getElem?_eq_some_iff.1 hj).2
  refine wp_seq (Go.wp_mono (h0 w (fun k o hk => hA.lt hk) _ w hinit) ?_)
  rintro e a w1 ⟨ρ, σ, u1, μ1, ⟨bk, hd, hR⟩, rfl, rfl, hρ, hσ, hK⟩
  obtain ⟨b, Tb, hb, hh, hR2⟩ := hR.reveal hσ
  have hun : u1 b = none := (hR.fresh t _ b hσ hb).2.1
  have hR3 := hR2.toMem hσ hb hh
  have hslot : a.tmps[t]? = some (.pointer (some ⟨b, 0, none⟩)) := by
    obtain ⟨x, hx, b', hb', rfl⟩ := hR.slot t _ hρ
    rw [hb] at hb'; cases hb'
    exact hx
  refine wp_seq (wp_region_lit ?_)
  refine wpList_plain rfl fun N hN => ?_
  have e1 : a.eval (.tmp t) = .pointer (some ⟨b, 0, none⟩) := Act.eval_of hslot
  have run1 : (execOp a.eval ⟨some m, .makeFunc (.func g) #[] #[.tmp t], ty, pos, aft, none⟩).run P w1 = .ok (.value (.func (.func g) #[] #[.pointer (some ⟨b, 0, none⟩)])) w1 := by
    simp [execOp, Instr.makeFunc, e1]
  unfold Oper.wp
  rw [run1]
  refine hN _ _ ?_
  refine wpList_plain rfl fun N2 hN2 => ?_
  have hR4 := hR3.put (x := .func (.func g) #[] #[.pointer (some ⟨b, 0, none⟩)]) (sv := .q) (blt_lt hm) trivial
  have e2 : (a.put (some m) (.func (.func g) #[] #[.pointer (some ⟨b, 0, none⟩)])).eval (.tmp m) = .func (.func g) #[] #[.pointer (some ⟨b, 0, none⟩)] := by
    refine Act.eval_of ?_
    have hml : m < a.tmps.size := by rw [hR.size]; exact blt_lt hm
    simp [Act.put, hml]
  have run2 : (execOp (a.put (some m) (.func (.func g) #[] #[.pointer (some ⟨b, 0, none⟩)])).eval ⟨none, .defer { callee := .value (.tmp m), args := #[], argTypes := #[] }, ty2, pos2, aft2, none⟩).run P w1 = .ok (.defer { target := .fn (.func g) #[.pointer (some ⟨b, 0, none⟩)], args := #[] }) w1 := by
    simp [execOp, resolve, e2, Deferred.ofValue]
  unfold Oper.wp
  rw [run2]
  refine hN2 _ _ (wpList_nil ?_)
  -- the rest of the body
  have hR5 : RepAt ⟨P, fn.ntmps, w, [], u, [{ target := .fn (.func g) #[.pointer (some ⟨b, 0, none⟩)], args := #[] }]⟩ bk hd ((m, .q) :: rev t b ρ) (Eng.rm t σ) u1 [(b, .cells zs.toArray Tb (0, 0))] ({ a.put (some m) (.func (.func g) #[] #[.pointer (some ⟨b, 0, none⟩)]) with defers := { target := .fn (.func g) #[.pointer (some ⟨b, 0, none⟩)], args := #[] } :: (a.put (some m) (.func (.func g) #[] #[.pointer (some ⟨b, 0, none⟩)])).defers } : Act) w1 :=
    ⟨hR4.size, by simp [hR4.defers], hR4.frame, hR4.agree, hR4.uold, hR4.mem, hR4.slot, hR4.own, hR4.fresh, hR4.inj⟩
  refine Go.wp_mono (h1 w b Tb _ ρ σ u1 hK hun _ _ ⟨bk, hd, hR5⟩) ?_
  rintro e a2 w2 ⟨ρ2, σ2, u2, μ2, ⟨bk2, hd2, hE⟩, he, hptr, c, Tc, gg, n, vs, z, hmem, hk, hc, hl, hz, hr⟩
  have hend : Leaves P fn a2.tmps (fun e w' => ∃ (v : Value) (u' : View) (μ' : Mem), e = .returned v ∧ (R v u' ∧ VLe u u') ∧ Agree u' w' ∧ (∀ k, k < w.heap.size → u' k = u k) ∧ Frame0 w (([] : Mem).map (·.1)) w' ∧ (∀ b o, (b, o) ∈ μ' → w'.heap[b]? = some o ∧ u' b = none ∧ (b ∈ ([] : Mem).map (·.1) ∨ w.heap.size ≤ b))) a2.defers .returning w2 := by
    rw [hE.defers]
    refine leaves_cons (f := g) (args := #[.pointer (some ⟨b, 0, none⟩)]) (by simp) (by simp [invoke, run_callFunc hg]) ?_
    refine (hidle ⟨b, 0, none⟩ w2).mono ?_
    rintro e u' w' ⟨rfl, rfl, rfl⟩
    refine ⟨z, ?_, z, u2, [], rfl, ⟨hr, fun k o hk => (hE.uold k (hA.lt hk)).trans hk⟩, hE.agree, hE.uold, hE.frame, by simp⟩
    obtain ⟨x, hx, hs⟩ := hE.slot t _ hptr
    cases hs
    have := run_loadVar_cut (P := P) hk (hE.mem _ _ hmem).1 hc hl hz
    simp [results, hrs, hx, asAddr, this]
  rcases he with rfl | rfl
  · exact hend
  · exact hend
end Go.Eng
