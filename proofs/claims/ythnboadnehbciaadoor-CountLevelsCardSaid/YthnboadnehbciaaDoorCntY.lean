/- Count: what came in. -/
import Derived.Test.YthnboadnehbciaaDoorDocT
import Derived.Test.YthnboadnehbciaaDoorCntX
import Derived.Lib.LaidTab
import Derived.ChangeMaps5
namespace Go.Eng
open Go Go.RowKit
open Go.ChangeShapes Go.WideShapes
set_option linter.unusedSimpArgs false
set_option linter.unusedVariables false

theorem laidMet_tail {P : Program} {x : String × DataW Unit} {r : List (String × DataW Unit)} {W : World} (h : laidMet P (x :: r) W) : laidMet P r W := by
  obtain ⟨ps, ⟨g, t, cs, fuel, p, q, _, _, _, _, hq, rfl⟩, hnd, hc⟩ := h
  exact ⟨q, hq, (List.nodup_append.1 hnd).2.1, fun b off hm => hc b off (List.mem_append_right _ hm)⟩
theorem wok_of {H : Type} {P : Program} {ts : List TypeId} {ds : List (DataW H)} (h : (DataW.weightsEach P ts ds).all (· ≤ reachBytes) = true) (i : Nat) {t : TypeId} {d : DataW H} (ht : ts[i]? = some t) (hd : ds[i]? = some d) : WOk P t d := by
  intro n hn
  have := List.all_eq_true.1 h n (weightsEach_mem ht hd hn)
  have h2 := of_decide_eq_true this
  unfold reachBytes at h2
  omega
/-- cells of a listed datum -/
def litCell : DataW Unit → Value
  | .lit (.int k n) => .int k n
  | _ => undef
def datCells : DataW Unit → Array Value
  | .agg l => (l.map litCell).toArray
  | _ => #[]

section
variable {H : Type} {enc : TypeId × Value → H} {P : Program} {w : World} {base b0 : Nat} {spare : Nat → Bool} {held : Bool} {r : Reach}
theorem open_docV (T : DocTys P) {t : TypeId} {v : Value} {d : DataW H} {ps : List MemPlace} (ht : FldsAre P t [(0, T.pairs), (1, T.blks)]) (hc : P.cellsOf t = 2) (hw : WOk P t d) (hval : Value.okWide P w r b0 t v) (hd : DataW.Trod enc P w base spare held t v d ps) :
    ∃ (d : DDoc) (vm vb : Value), v = .agg #[vm, vb] ∧ PrS (wview w) vm d.mts ∧ BlkS (wview w) vb d.blocks ∧ DocOk d := by
  obtain ⟨fs, hu, _⟩ := id ht
  unfold Value.okWide at hval
  rw [hu] at hval
  obtain ⟨cs, rfl, hsz, _⟩ := hval
  obtain ⟨fuel, hf⟩ := hd
  obtain ⟨d, vm, vb, h1, h2⟩ := open_doc T ht hc hw hf
  refine ⟨d, vm, vb, ?_, h2⟩
  have h3 : cs.toList = [vm, vb] := h1
  have : cs = #[vm, vb] := by
    cases cs
    simpa using h3
  rw [this]

theorem chopN (u : View) (p : DNum → Prop) : ∀ (n : Nat) (cs : List Value), cs.length = n * 4 → (∀ i, i < n → ∃ x : DNum, NumC u x (cut cs (i * 4) 4) ∧ p x) → ∃ xs : List DNum, xs.length = n ∧ NumsC u xs cs ∧ ∀ x ∈ xs, p x
  | 0, cs, hl, _ => ⟨[], rfl, List.eq_nil_of_length_eq_zero (by simpa using hl), by simp⟩
  | n + 1, cs, hl, h => by
    obtain ⟨x, hx, hp⟩ := h 0 (by omega)
    have hl2 : cs.length = n * 4 + 4 := by omega
    obtain ⟨xs, h1, h2, h3⟩ := chopN u p n (cs.drop 4) (by simp; omega) (fun i hi => by
      obtain ⟨y, hy, hq⟩ := h (i + 1) (by omega)
      refine ⟨y, ?_, hq⟩
      unfold cut at hy ⊢
      rw [List.drop_drop, show 4 + i * 4 = (i + 1) * 4 by omega]
      exact hy)
    refine ⟨x :: xs, by simp [h1], ⟨cs.take 4, cs.drop 4, (List.take_append_drop 4 cs).symm, ?_, h2⟩, ?_⟩
    · unfold cut at hx
      simpa using hx
    · intro y hy
      rcases List.mem_cons.1 hy with rfl | hy
      · exact hp
      · exact h3 y hy
theorem open_nums (T : DocTys P) {num nums : TypeId} (hn : P.underlying nums = some (.slice num)) (hf : FldsAre P num [(0, T.s), (1, T.s), (2, T.s), (3, T.inls)]) (hc : P.cellsOf num = 4) (hy : 0 < P.bytesOf num) {v : Value} {d : DataW H} {ps : List MemPlace} (hw : WOk P nums d) (hval : Value.okWide P w r b0 nums v) (hd : DataW.Trod enc P w base spare held nums v d ps) :
    ∃ xs : List DNum, NumS (wview w) v xs ∧ ∀ x ∈ xs, x.line.length ≤ 140737488351232 := by
  obtain ⟨fuel, h⟩ := hd
  have hcells : ∃ y, v.cells.toList = [y] ∧ v = y := by
    obtain ⟨ad, n, c, rfl⟩ := okWide_slice hn hval
    exact ⟨_, rfl, rfl⟩
  obtain ⟨y, hy1, rfl⟩ := hcells
  rw [hy1] at h
  obtain ⟨n, cs, hsl, hn, hel⟩ := open_sl hn hc (by omega) hy hw h
  have hlen : cs.length = n * 4 := by obtain ⟨_, _, _, h1, _⟩ := hsl; exact h1
  obtain ⟨xs, h1, h2, h5⟩ := chopN (wview w) (fun x => x.line.length ≤ 140737488351232) n cs hlen (fun i hi => by
    obtain ⟨m, y, _, h3, hy⟩ := hel i hi
    obtain ⟨hl, hff⟩ := open_flds hf hy h3
    rw [hc] at hl
    obtain ⟨_, _, _, a0, q0⟩ := hff 0 0 T.s rfl
    obtain ⟨_, _, _, a1, q1⟩ := hff 1 1 T.s rfl
    obtain ⟨_, _, _, a2, q2⟩ := hff 2 2 T.s rfl
    obtain ⟨_, _, _, a3, q3⟩ := hff 3 3 T.inls rfl
    rw [T.cs] at a0 a1 a2
    rw [T.cinls] at a3
    generalize cut cs (i * 4) 4 = c at *
    match c, hl with
    | [u0, u1, u2, u3], _ =>
      obtain ⟨s0, b0, p0, _⟩ := DataW.trod_string T.hs a0
      obtain ⟨s1, b1, p1, _⟩ := DataW.trod_string T.hs a1
      obtain ⟨s2, b2, p2, _⟩ := DataW.trod_string T.hs a2
      obtain ⟨l0, e0⟩ := str_of s0
      obtain ⟨l1, e1⟩ := str_of s1
      obtain ⟨l2, e2⟩ := str_of s2
      obtain ⟨line, hline, oline⟩ := open_inls T _ u3 _ q3 (show DataW.trod enc P w base spare held _ T.inls [u3] = some _ from a3)
      unfold cut at b0 b1 b2
      simp at b0 b1 b2
      exact ⟨⟨l0, l1, l2, line⟩, ⟨u3, by rw [b0, b1, b2, e0, e1, e2], hline⟩, oline⟩)
  exact ⟨xs, ⟨cs, by rw [h1]; exact hsl, h2⟩, h5⟩
theorem open_str {t : TypeId} {v : Value} {d : DataW H} {ps : List MemPlace} (ht : P.underlying t = some .string) (hval : Value.okWide P w r b0 t v) (hd : DataW.Trod enc P w base spare held t v d ps) :
    ∃ l : List UInt8, v = str l ∧ l.length ≤ maxLen := by
  obtain ⟨s, rfl, _, _, hs⟩ := Go.ChangeMaps.open_string ht hval hd
  refine ⟨s.data.toList, ?_, (show s.data.toList.length = s.size from Array.length_toList) ▸ hs⟩
  cases s
  rfl
theorem open_u8s {t e : TypeId} (ht : P.underlying t = some (.slice e)) (he : P.underlying e = some (.int .u8)) (hc : P.cellsOf e = 1) (hby : 0 < P.bytesOf e) {v : Value} {d : DataW H} {ps : List MemPlace} (hw : WOk P t d) (hval : Value.okWide P w r b0 t v) (hd : DataW.Trod enc P w base spare held t v d ps) :
    ∃ ls : List Nat, IsSl (wview w) v ls.length 1 (ls.map fun n : Nat => Value.int .u8 n) ∧ ∀ n ∈ ls, n < 256 := by
  obtain ⟨fuel, h⟩ := hd
  have hcells : ∃ y, v.cells.toList = [y] ∧ v = y := by
    obtain ⟨ad, n, c, rfl⟩ := okWide_slice ht hval
    exact ⟨_, rfl, rfl⟩
  obtain ⟨y, hy1, rfl⟩ := hcells
  rw [hy1] at h
  obtain ⟨n, cs, hsl, hn, hel⟩ := open_sl ht hc (by omega) hby hw h
  have hlen : cs.length = n * 1 := by obtain ⟨_, _, _, h1, _⟩ := hsl; exact h1
  obtain ⟨xs, h1, h2, h5⟩ := chop (fun n : Nat => [Value.int .u8 n]) (fun n => n < 256) 1 n cs hlen (fun i hi => by
    obtain ⟨m, y, _, h3, hy⟩ := hel i hi
    rw [show (1 : Nat) = P.cellsOf e from hc.symm] at h3
    obtain ⟨z, h4, _, hwf⟩ := DataW.trod_int he h3
    simp [Lit.wf, IntKind.min, IntKind.max, IntKind.signed, IntKind.bits] at hwf
    refine ⟨z.toNat, ?_, by omega⟩
    rw [hc] at h4
    rw [h4]
    congr 2
    omega)
  refine ⟨xs, ?_, h5⟩
  rw [h1]
  have e1 : (xs.map fun n : Nat => Value.int .u8 n) = cs := by rw [h2]; exact List.map_eq_flatMap
  rw [e1]
  exact hsl
end
end Go.Eng
namespace Go.Proofs.Ythnboadnehbciaa
open Go Go.Eng
theorem numFl : FldsAre Tryd.prog 38 [(0, docT.s), (1, docT.s), (2, docT.s), (3, docT.inls)] := ⟨Tryd.prog.fieldsOf 38, by kernel_rfl, by kernel_rfl⟩
theorem tabU_of {W : World} (h : Lib.TabIs Tryd.prog W "internal/strconv.uint64pow10" .u64 Lib.pow10Tab) : TabU (wview W) := by
  unfold Lib.TabIs World.var? at h
  rw [gTab] at h
  unfold TabU wview
  cases hg : W.heap[0]? with
  | none => simp [hg] at h
  | some o =>
    cases o with
    | cells c T fr =>
      simp [hg] at h
      exact ⟨T, fr, by rw [h]⟩
    | _ => simp [hg] at h
end Go.Proofs.Ythnboadnehbciaa
