/- Texts for a law, part 7: they walk the functions that the law reaches, and state what holds of them; without conditions beyond each theorem's own. -/
import Derived.Test.YtoajhdnfdfbmaaaGreatDoorQartF
namespace Go.Proofs.Ytoajhdnfdfbmaaa
open Go Go.Eng
set_option linter.unusedSimpArgs false
set_option linter.unusedVariables false
set_option maxRecDepth 4000
structure BlkK (u : View) (a : DAttr) (line : List Inl) (kids : List Blk) (vc vp vl vk : Value) (inf t d ti : Bs) : Prop where
 s1 : StrS u vc a.classes
 s2 : PrS u vp a.pairs
 s3 : InlS u vl line
 s4 : BlkS u vk kids
 sm : inf.length + t.length + d.length + ti.length ≤ 100000 ∧ a.classes.length ≤ 40 ∧ a.pairs.length ≤ 40 ∧ longN a ≤ 9000
 sl : smI line
 sz : szI line ≤ 100000 ∧ szB kids ≤ 100000
def bF1 (k : Int) : Bool := decide (1 ≤ k) && decide (k ≤ 15)
def bF2 (k lv : Int) : Bool := bF1 k && (inB k [2, 8] || decide (lv = 0))
def bF3 (k lv : Int) (inf : Bs) : Bool := bF2 k lv && (inB k [3, 10, 13, 14, 15] || decide (inf = []))
def bF4 (k lv : Int) (inf t : Bs) : Bool := bF3 k lv inf && (inB k [3, 4] || decide (t = []))
def bF5 (k lv : Int) (inf t d ti : Bs) : Bool := bF4 k lv inf t && (decide (k = 15) || (decide (d = []) && decide (ti = [])))
def bF6 (k lv : Int) (inf t d ti : Bs) (a : DAttr) : Bool := bF5 k lv inf t d ti && (inB k [2, 4, 13] || noA a)
def bF7 (k lv : Int) (inf t d ti : Bs) (a : DAttr) (n : Nat) : Bool := bF6 k lv inf t d ti a && (inB k [1, 2, 12] || decide ((n : Int) = 0))
def bF8 (k lv : Int) (inf t d ti : Bs) (a : DAttr) (n m : Nat) : Bool := bF7 k lv inf t d ti a n && (inB k [6, 7, 8, 9, 10, 11, 13, 14] || decide ((m : Int) = 0))
theorem BlkK.one {u : View} {a : DAttr} {line : List Inl} {kids : List Blk} {vc vp vl vk : Value} {inf t d ti : Bs} (h : BlkK u a line kids vc vp vl vk inf t d ti) (k lv : Int) : (blkV k lv inf t d ti a.id vc vp vl vk).all Value.oneCell' = true := by
 have o1 := h.s1.one
 have o2 := h.s2.one
 obtain ⟨cs3, h3, -⟩ := h.s3
 obtain ⟨cs4, h4, -⟩ := h.s4
 have o3 := h3.one
 have o4 := h4.one
 simp only [blkV, List.all_cons, List.all_nil, o1, o2, o3, o4]
 rfl
theorem blockFields_fn (k lv : Int) (inf t d ti : Bs) (a : DAttr) (line : List Inl) (kids : List Blk) (vc vp vl vk : Value) (u : View) (h : BlkK u a line kids vc vp vl vk inf t d ti) :
  FnP Tryz.prog 96 [.agg (blkV k lv inf t d ti a.id vc vp vl vk).toArray] u fun r _ => r = .bool (bF8 k lv inf t d ti a line.length kids.length) := by
 have oneAll := h.one k lv
 obtain ⟨s1, s2, s3, s4, -, -, -⟩ := h
 have o1 := s1.one
 have o2 := s2.one
 obtain ⟨cs3, ⟨ad3, cap3, rfl, -⟩, -⟩ := s3
 obtain ⟨cs4, ⟨ad4, cap4, rfl, -⟩, -⟩ := s4
 refine FnP.intro [.tmp 2] Tryz.func96 rfl rfl rfl ?_
 intro w0 D hw0
 refine Zc (Za (Zq rfl rfl ?_))
 refine Zbl trivial rfl (cs := [_, _, _, _, _, _, _, _, _, _, _]) rfl rfl rfl rfl ?_
 refine ya rfl rfl (Zd (ρ' := [(1, _)]) ⟨rfl, trivial⟩ ?_)
 refine Zb (Zc (Za (Zf (Zi rfl Tryz.f39' rfl (by decide) rfl) rfl ?_)))
 refine Zf (Zj rfl Tryz.k3 rfl rfl rfl (vs := [_]) rfl rfl rfl) rfl ?_
 refine Zq rfl rfl ?_
 refine Zac trivial Tryz.s143 Tryz.z3 (ps := [(_, _), (_, _)]) rfl (xs := [_, _]) rfl rfl rfl rfl rfl rfl rfl ?_
 refine Zq rfl rfl ?_
 refine Zcb (caps := []) 11 trivial rfl rfl Tryz.c111 rfl ?_
 intro adb capb ub hleb hslb
 refine ⟨_, rfl, FnP.mono (in4_fn k _ [2, 8] (by decide) ub ⟨_, _, rfl, hslb⟩) ?_⟩
 rintro v u1 hle1 rfl
 refine ya rfl rfl (Zd (ρ' := [(1, _), (3, _)]) ⟨rfl, rfl, trivial⟩ ?_)
 refine Zb (Zc (Za (Zf (Zi rfl Tryz.f39' rfl (by decide) rfl) rfl ?_)))
 refine Zf (Zj rfl Tryz.k3 rfl rfl rfl (vs := [_]) rfl rfl rfl) rfl ?_
 refine Zq rfl rfl ?_
 refine Zac trivial Tryz.s143 Tryz.z3 (ps := [(_, _), (_, _), (_, _), (_, _), (_, _)]) rfl (xs := [_, _, _, _, _]) rfl rfl rfl rfl rfl rfl rfl ?_
 refine Zq rfl rfl ?_
 refine Zcb (caps := []) 15 trivial rfl rfl Tryz.c111 rfl ?_
 intro adb capb ub hleb hslb
 refine ⟨_, rfl, FnP.mono (in4_fn k _ [3, 10, 13, 14, 15] (by decide) ub ⟨_, _, rfl, hslb⟩) ?_⟩
 rintro v u1 hle1 rfl
 refine ya rfl rfl (Zd (ρ' := [(1, _), (3, _), (4, _)]) ⟨rfl, rfl, rfl, trivial⟩ ?_)
 refine Zb (Zc (Za (Zf (Zi rfl Tryz.f39' rfl (by decide) rfl) rfl ?_)))
 refine Zf (Zj rfl Tryz.k3 rfl rfl rfl (vs := [_]) rfl rfl rfl) rfl ?_
 refine Zq rfl rfl ?_
 refine Zac trivial Tryz.s143 Tryz.z3 (ps := [(_, _), (_, _)]) rfl (xs := [_, _]) rfl rfl rfl rfl rfl rfl rfl ?_
 refine Zq rfl rfl ?_
 refine Zcb (caps := []) 19 trivial rfl rfl Tryz.c111 rfl ?_
 intro adb capb ub hleb hslb
 refine ⟨_, rfl, FnP.mono (in4_fn k _ [3, 4] (by decide) ub ⟨_, _, rfl, hslb⟩) ?_⟩
 rintro v u1 hle1 rfl
 refine ya rfl rfl (Zd (ρ' := [(1, _), (3, _), (4, _), (5, _)]) ⟨rfl, rfl, rfl, rfl, trivial⟩ ?_)
 refine Zb (Zc (Za (Zf (Zi rfl Tryz.f39' rfl (by decide) rfl) rfl ?_)))
 refine Zf (Zj rfl Tryz.k3 rfl rfl rfl (vs := [_]) rfl rfl rfl) rfl ?_
 refine Zq rfl rfl ?_
 refine Zac trivial Tryz.s143 Tryz.z3 (ps := [(_, _), (_, _), (_, _)]) rfl (xs := [_, _, _]) rfl rfl rfl rfl rfl rfl rfl ?_
 refine Zq rfl rfl ?_
 refine Zcb (caps := []) 23 trivial rfl rfl Tryz.c111 rfl ?_
 intro adb capb ub hleb hslb
 refine ⟨_, rfl, FnP.mono (in4_fn k _ [2, 4, 13] (by decide) ub ⟨_, _, rfl, hslb⟩) ?_⟩
 rintro v u1 hle1 rfl
 refine ya rfl rfl (Zd (ρ' := [(1, _), (3, _), (4, _), (5, _), (6, _)]) ⟨rfl, rfl, rfl, rfl, rfl, trivial⟩ ?_)
 refine Zb (Zc (Za (Zf (Zi rfl Tryz.f39' rfl (by decide) rfl) rfl ?_)))
 refine Zf (Zj rfl Tryz.k3 rfl rfl rfl (vs := [_]) rfl rfl rfl) rfl ?_
 refine Zq rfl rfl ?_
 refine Zac trivial Tryz.s143 Tryz.z3 (ps := [(_, _), (_, _), (_, _)]) rfl (xs := [_, _, _]) rfl rfl rfl rfl rfl rfl rfl ?_
 refine Zq rfl rfl ?_
 refine Zcb (caps := []) 27 trivial rfl rfl Tryz.c111 rfl ?_
 intro adb capb ub hleb hslb
 refine ⟨_, rfl, FnP.mono (in4_fn k _ [1, 2, 12] (by decide) ub ⟨_, _, rfl, hslb⟩) ?_⟩
 rintro v u1 hle1 rfl
 refine ya rfl rfl (Zd (ρ' := [(1, _), (3, _), (4, _), (5, _), (6, _), (7, _)]) ⟨rfl, rfl, rfl, rfl, rfl, rfl, trivial⟩ ?_)
 refine Zb (Zc (Za (Zf (Zi rfl Tryz.f39' rfl (by decide) rfl) rfl ?_)))
 refine Zf (Zj rfl Tryz.k3 rfl rfl rfl (vs := [_]) rfl rfl rfl) rfl ?_
 refine Zq rfl rfl ?_
 refine Zac trivial Tryz.s143 Tryz.z3 (ps := [(_, _), (_, _), (_, _), (_, _), (_, _), (_, _), (_, _), (_, _)]) rfl (xs := [_, _, _, _, _, _, _, _]) rfl rfl rfl rfl rfl rfl rfl ?_
 refine Zq rfl rfl ?_
 refine Zcb (caps := []) 31 trivial rfl rfl Tryz.c111 rfl ?_
 intro adb capb ub hleb hslb
 refine ⟨_, rfl, FnP.mono (in4_fn k _ [6, 7, 8, 9, 10, 11, 13, 14] (by decide) ub ⟨_, _, rfl, hslb⟩) ?_⟩
 rintro v u1 hle1 rfl
 refine ya rfl rfl (Zd (ρ' := [(1, _), (3, _), (4, _), (5, _), (6, _), (7, _), (8, _)]) ⟨rfl, rfl, rfl, rfl, rfl, rfl, rfl, trivial⟩ ?_)
 refine Zb (Zc (Za ?_))
 refine Zcg 9 41 (bF1 k) (ρk := [(1, _), (3, _), (4, _), (5, _), (6, _), (7, _), (8, _)]) ⟨rfl, rfl, rfl, rfl, rfl, rfl, rfl, trivial⟩ ?_ ?_
 ·
  refine Zf (Zi rfl Tryz.f39' rfl (by decide) rfl) rfl ?_
  refine Zf (Zj rfl Tryz.k3 rfl rfl rfl (vs := [_]) rfl rfl rfl) rfl ?_
  refine Zf (Zbw rfl rfl rfl) rfl ?_
  refine ym rfl rfl ?_
  refine Zad 36 rfl (fun hg7_3 => ?_) (fun hg7_3 => ?_)
  ·
   refine Zk rfl rfl (Zf (Zi rfl Tryz.f39' rfl (by decide) rfl) rfl ?_)
   refine Zk rfl rfl (Zf (Zj rfl Tryz.k3 rfl rfl rfl (vs := [_]) rfl rfl rfl) rfl ?_)
   refine Zk rfl rfl (Zf (y_leq rfl rfl rfl) rfl ?_)
   refine Zf (Zl rfl rfl rfl) rfl (ym rfl rfl ?_)
   exact Zak rfl ⟨rfl, rfl, rfl, rfl, rfl, rfl, rfl, trivial⟩ (by (unfold bF1; first | (rw [hg7_3]; rfl) | (rw [hg7_3]; simp)))
  ·
   iterate 3 refine Zo rfl rfl rfl rfl ?_
   refine Zf (Zm rfl rfl rfl) rfl (ym rfl rfl ?_)
   exact Zak rfl ⟨rfl, rfl, rfl, rfl, rfl, rfl, rfl, trivial⟩ (by (unfold bF1; first | (rw [hg7_3]; rfl) | (rw [hg7_3]; simp)))
 refine Zcg 8 49 (bF2 k lv) (ρk := [(1, _), (4, _), (5, _), (6, _), (7, _), (8, _)]) ⟨rfl, rfl, rfl, rfl, rfl, rfl, trivial⟩ ?_ ?_
 ·
  refine Zad 41 rfl (fun hg7_8 => ?_) (fun hg7_8 => ?_)
  ·
   refine Zk rfl rfl (ym rfl rfl (Zk rfl rfl (ym rfl rfl ?_)))
   refine Zad 43 rfl (fun hg7_10 => ?_) (fun hg7_10 => ?_)
   ·
    iterate 3 refine Zo rfl rfl rfl rfl ?_
    refine Zk rfl rfl (Zf (Zl rfl rfl rfl) rfl (Zf (Zl rfl rfl rfl) rfl (ym rfl rfl ?_)))
    exact Zak rfl ⟨rfl, rfl, rfl, rfl, rfl, rfl, trivial⟩ (by (unfold bF2; first | (rw [hg7_8]; rfl) | (rw [hg7_8, hg7_10]; simp)))
   ·
    refine Zk rfl rfl (Zf (Zi rfl Tryz.f39' rfl (by decide) rfl) rfl ?_)
    refine Zk rfl rfl (Zf (Zj rfl Tryz.k3 rfl rfl rfl (vs := [_]) rfl rfl rfl) rfl ?_)
    refine Zk rfl rfl (Zf (Zay rfl rfl rfl) rfl ?_)
    refine Zk rfl rfl (Zf (Zm rfl rfl rfl) rfl (Zf (Zl rfl rfl rfl) rfl (ym rfl rfl ?_)))
    exact Zak rfl ⟨rfl, rfl, rfl, rfl, rfl, rfl, trivial⟩ (by (unfold bF2; first | (rw [hg7_8]; rfl) | (rw [hg7_8, hg7_10]; simp)))
  ·
   refine Zo rfl rfl rfl rfl (Zo rfl rfl rfl rfl ?_)
   refine Zab rfl rfl rfl ?_
   refine Zab rfl rfl rfl ?_
   refine Zab rfl rfl rfl ?_
   refine Zo rfl rfl rfl rfl (Zf (Zm rfl rfl rfl) rfl (ym rfl rfl ?_))
   exact Zak rfl ⟨rfl, rfl, rfl, rfl, rfl, rfl, trivial⟩ (by (unfold bF2; first | (rw [hg7_8]; rfl) | (rw [hg7_8, hg7_10]; simp)))
 refine Zcg 8 57 (bF3 k lv inf) (ρk := [(1, _), (5, _), (6, _), (7, _), (8, _)]) ⟨rfl, rfl, rfl, rfl, rfl, trivial⟩ ?_ ?_
 ·
  refine Zad 49 rfl (fun hg7_16 => ?_) (fun hg7_16 => ?_)
  ·
   refine Zk rfl rfl (ym rfl rfl (Zk rfl rfl (ym rfl rfl ?_)))
   refine Zad 51 rfl (fun hg7_18 => ?_) (fun hg7_18 => ?_)
   ·
    iterate 3 refine Zo rfl rfl rfl rfl ?_
    refine Zk rfl rfl (Zf (Zl rfl rfl rfl) rfl (Zf (Zl rfl rfl rfl) rfl (ym rfl rfl ?_)))
    exact Zak rfl ⟨rfl, rfl, rfl, rfl, rfl, trivial⟩ (by (unfold bF3; first | (rw [hg7_16]; rfl) | (rw [hg7_16, hg7_18]; simp)))
   ·
    refine Zk rfl rfl (Zf (Zi rfl Tryz.f39' rfl (by decide) rfl) rfl ?_)
    refine Zk rfl rfl (Zf (Zj rfl Tryz.k9 rfl rfl rfl (vs := [_]) rfl rfl rfl) rfl ?_)
    refine Zk rfl rfl (Zf (Zbg rfl rfl rfl) rfl ?_)
    refine Zk rfl rfl (Zf (Zm rfl rfl rfl) rfl (Zf (Zl rfl rfl rfl) rfl (ym rfl rfl ?_)))
    exact Zak rfl ⟨rfl, rfl, rfl, rfl, rfl, trivial⟩ (by (unfold bF3; first | (rw [hg7_16]; rfl) | (rw [hg7_16, hg7_18]; simp)))
  ·
   refine Zo rfl rfl rfl rfl (Zo rfl rfl rfl rfl ?_)
   refine Zab rfl rfl rfl ?_
   refine Zab rfl rfl rfl ?_
   refine Zab rfl rfl rfl ?_
   refine Zo rfl rfl rfl rfl (Zf (Zm rfl rfl rfl) rfl (ym rfl rfl ?_))
   exact Zak rfl ⟨rfl, rfl, rfl, rfl, rfl, trivial⟩ (by (unfold bF3; first | (rw [hg7_16]; rfl) | (rw [hg7_16, hg7_18]; simp)))
 refine Zcg 8 65 (bF4 k lv inf t) (ρk := [(1, _), (6, _), (7, _), (8, _)]) ⟨rfl, rfl, rfl, rfl, trivial⟩ ?_ ?_
 ·
  refine Zad 57 rfl (fun hg7_24 => ?_) (fun hg7_24 => ?_)
  ·
   refine Zk rfl rfl (ym rfl rfl (Zk rfl rfl (ym rfl rfl ?_)))
   refine Zad 59 rfl (fun hg7_26 => ?_) (fun hg7_26 => ?_)
   ·
    iterate 3 refine Zo rfl rfl rfl rfl ?_
    refine Zk rfl rfl (Zf (Zl rfl rfl rfl) rfl (Zf (Zl rfl rfl rfl) rfl (ym rfl rfl ?_)))
    exact Zak rfl ⟨rfl, rfl, rfl, rfl, trivial⟩ (by (unfold bF4; first | (rw [hg7_24]; rfl) | (rw [hg7_24, hg7_26]; simp)))
   ·
    refine Zk rfl rfl (Zf (Zi rfl Tryz.f39' rfl (by decide) rfl) rfl ?_)
    refine Zk rfl rfl (Zf (Zj rfl Tryz.k9 rfl rfl rfl (vs := [_]) rfl rfl rfl) rfl ?_)
    refine Zk rfl rfl (Zf (Zbg rfl rfl rfl) rfl ?_)
    refine Zk rfl rfl (Zf (Zm rfl rfl rfl) rfl (Zf (Zl rfl rfl rfl) rfl (ym rfl rfl ?_)))
    exact Zak rfl ⟨rfl, rfl, rfl, rfl, trivial⟩ (by (unfold bF4; first | (rw [hg7_24]; rfl) | (rw [hg7_24, hg7_26]; simp)))
  ·
   refine Zo rfl rfl rfl rfl (Zo rfl rfl rfl rfl ?_)
   refine Zab rfl rfl rfl ?_
   refine Zab rfl rfl rfl ?_
   refine Zab rfl rfl rfl ?_
   refine Zo rfl rfl rfl rfl (Zf (Zm rfl rfl rfl) rfl (ym rfl rfl ?_))
   exact Zak rfl ⟨rfl, rfl, rfl, rfl, trivial⟩ (by (unfold bF4; first | (rw [hg7_24]; rfl) | (rw [hg7_24, hg7_26]; simp)))
 refine Zcg 15 80 (bF5 k lv inf t d ti) (ρk := [(1, _), (6, _), (7, _), (8, _)]) ⟨rfl, rfl, rfl, rfl, trivial⟩ ?_ ?_
 ·
  refine Zad 65 rfl (fun hg7_32 => ?_) (fun hg7_32 => ?_)
  ·
   refine Zk rfl rfl (Zf (Zi rfl Tryz.f39' rfl (by decide) rfl) rfl ?_)
   refine Zk rfl rfl (Zf (Zj rfl Tryz.k3 rfl rfl rfl (vs := [_]) rfl rfl rfl) rfl ?_)
   refine Zk rfl rfl (Zf (Zay rfl rfl rfl) rfl ?_)
   refine Zk rfl rfl (ym rfl rfl ?_)
   refine Zad 69 rfl (fun hg7_36 => ?_) (fun hg7_36 => ?_)
   ·
    iterate 4 refine Zo rfl rfl rfl rfl ?_
    refine Zab rfl rfl rfl ?_
    refine Zab rfl rfl rfl ?_
    refine Zab rfl rfl rfl ?_
    refine Zo rfl rfl rfl rfl (Zk rfl rfl (Zf (Zl rfl rfl rfl) rfl (Zf (Zl rfl rfl rfl) rfl (ym rfl rfl ?_))))
    exact Zak rfl ⟨rfl, rfl, rfl, rfl, trivial⟩ (by (unfold bF5; first | (rw [hg7_32]; rfl) | (rw [hg7_32, hg7_36]; rfl) | (rw [hg7_32, hg7_36, hg7_40]; rfl) | (rw [hg7_32, hg7_36, hg7_40]; simp)))
   ·
    refine Zk rfl rfl (Zf (Zi rfl Tryz.f39' rfl (by decide) rfl) rfl ?_)
    refine Zk rfl rfl (Zf (Zj rfl Tryz.k9 rfl rfl rfl (vs := [_]) rfl rfl rfl) rfl ?_)
    refine Zk rfl rfl (Zf (Zbg rfl rfl rfl) rfl ?_)
    refine Zk rfl rfl (ym rfl rfl ?_)
    refine Zad 73 rfl (fun hg7_40 => ?_) (fun hg7_40 => ?_)
    ·
     refine Zk rfl rfl (Zf (Zi rfl Tryz.f39' rfl (by decide) rfl) rfl ?_)
     refine Zk rfl rfl (Zf (Zj rfl Tryz.k9 rfl rfl rfl (vs := [_]) rfl rfl rfl) rfl ?_)
     refine Zk rfl rfl (Zf (Zbg rfl rfl rfl) rfl ?_)
     refine Zk rfl rfl (Zf (Zl rfl rfl rfl) rfl (Zk rfl rfl (Zf (Zm rfl rfl rfl) rfl (Zf (Zl rfl rfl rfl) rfl (ym rfl rfl ?_)))))
     exact Zak rfl ⟨rfl, rfl, rfl, rfl, trivial⟩ (by (unfold bF5; first | (rw [hg7_32]; rfl) | (rw [hg7_32, hg7_36]; rfl) | (rw [hg7_32, hg7_36, hg7_40]; rfl) | (rw [hg7_32, hg7_36, hg7_40]; simp)))
    ·
     iterate 3 refine Zo rfl rfl rfl rfl ?_
     refine Zk rfl rfl (Zf (Zm rfl rfl rfl) rfl (Zk rfl rfl (Zf (Zm rfl rfl rfl) rfl (Zf (Zl rfl rfl rfl) rfl (ym rfl rfl ?_)))))
     exact Zak rfl ⟨rfl, rfl, rfl, rfl, trivial⟩ (by (unfold bF5; first | (rw [hg7_32]; rfl) | (rw [hg7_32, hg7_36]; rfl) | (rw [hg7_32, hg7_36, hg7_40]; rfl) | (rw [hg7_32, hg7_36, hg7_40]; simp)))
  ·
   iterate 4 refine Zo rfl rfl rfl rfl ?_
   refine Zab rfl rfl rfl ?_
   refine Zab rfl rfl rfl ?_
   refine Zab rfl rfl rfl ?_
   refine Zab rfl rfl rfl ?_
   refine Zab rfl rfl rfl ?_
   refine Zab rfl rfl rfl ?_
   refine Zab rfl rfl rfl ?_
   refine Zab rfl rfl rfl ?_
   refine Zo rfl rfl rfl rfl (Zf (Zm rfl rfl rfl) rfl (ym rfl rfl ?_))
   exact Zak rfl ⟨rfl, rfl, rfl, rfl, trivial⟩ (by (unfold bF5; first | (rw [hg7_32]; rfl) | (rw [hg7_32, hg7_36]; rfl) | (rw [hg7_32, hg7_36, hg7_40]; rfl) | (rw [hg7_32, hg7_36, hg7_40]; simp)))
 refine Zcg 8 88 (bF6 k lv inf t d ti a) (ρk := [(1, _), (7, _), (8, _)]) ⟨rfl, rfl, rfl, trivial⟩ ?_ ?_
 ·
  refine Zad 80 rfl (fun hg7_47 => ?_) (fun hg7_47 => ?_)
  ·
   refine Zk rfl rfl (ym rfl rfl (Zk rfl rfl (ym rfl rfl ?_)))
   refine Zad 82 rfl (fun hg7_49 => ?_) (fun hg7_49 => ?_)
   ·
    iterate 3 refine Zo rfl rfl rfl rfl ?_
    refine Zk rfl rfl (Zf (Zl rfl rfl rfl) rfl (Zf (Zl rfl rfl rfl) rfl (ym rfl rfl ?_)))
    exact Zak rfl ⟨rfl, rfl, rfl, trivial⟩ (by (unfold bF6; first | (rw [hg7_47]; rfl) | (rw [hg7_47, hg7_49]; simp)))
   ·
    refine Zk rfl rfl (Zf (Zi rfl Tryz.f39' rfl (by decide) rfl) rfl ?_)
    refine Zk rfl rfl (Zf (Zj rfl Tryz.k36 rfl rfl rfl (vs := [_, _, _]) rfl rfl rfl) rfl ?_)
    refine Zk rfl rfl (Zq rfl rfl ?_)
    refine Zw (caps := []) trivial rfl rfl Tryz.c112 rfl (FnP.mono (noAttr_fn a vc vp u s1 s2) ?_)
    rintro v u1 hle1 rfl
    refine Zk rfl rfl (Zf (Zm rfl rfl rfl) rfl (Zf (Zl rfl rfl rfl) rfl (ym rfl rfl ?_)))
    exact Zak rfl ⟨rfl, rfl, rfl, trivial⟩ (by (unfold bF6; first | (rw [hg7_47]; rfl) | (rw [hg7_47, hg7_49]; simp)))
  ·
   refine Zo rfl rfl rfl rfl (Zo rfl rfl rfl rfl ?_)
   refine Zab rfl rfl rfl ?_
   refine Zab rfl rfl rfl ?_
   refine Zab rfl rfl rfl ?_
   refine Zo rfl rfl rfl rfl (Zf (Zm rfl rfl rfl) rfl (ym rfl rfl ?_))
   exact Zak rfl ⟨rfl, rfl, rfl, trivial⟩ (by (unfold bF6; first | (rw [hg7_47]; rfl) | (rw [hg7_47, hg7_49]; simp)))
 refine Zcg 9 97 (bF7 k lv inf t d ti a line.length) (ρk := [(1, _), (8, _)]) ⟨rfl, rfl, trivial⟩ ?_ ?_
 ·
  refine Zad 88 rfl (fun hg7_55 => ?_) (fun hg7_55 => ?_)
  ·
   refine Zk rfl rfl (ym rfl rfl (Zk rfl rfl (ym rfl rfl ?_)))
   refine Zad 90 rfl (fun hg7_57 => ?_) (fun hg7_57 => ?_)
   ·
    iterate 4 refine Zo rfl rfl rfl rfl ?_
    refine Zk rfl rfl (Zf (Zl rfl rfl rfl) rfl (Zf (Zl rfl rfl rfl) rfl (ym rfl rfl ?_)))
    exact Zak rfl ⟨rfl, rfl, trivial⟩ (by (unfold bF7; first | (rw [hg7_55]; rfl) | (rw [hg7_55, hg7_57]; simp)))
   ·
    refine Zk rfl rfl (Zf (Zi rfl Tryz.f39' rfl (by decide) rfl) rfl ?_)
    refine Zk rfl rfl (Zf (Zj rfl Tryz.k37 rfl rfl rfl (vs := [_]) rfl rfl rfl) rfl ?_)
    refine Zk rfl rfl (Zf (Zal rfl rfl Tryz.s37 rfl) rfl ?_)
    refine Zk rfl rfl (Zf (Zay rfl rfl rfl) rfl ?_)
    refine Zk rfl rfl (Zf (Zm rfl rfl rfl) rfl (Zf (Zl rfl rfl rfl) rfl (ym rfl rfl ?_)))
    exact Zak rfl ⟨rfl, rfl, trivial⟩ (by (unfold bF7; first | (rw [hg7_55]; rfl) | (rw [hg7_55, hg7_57]; simp)))
  ·
   refine Zo rfl rfl rfl rfl (Zo rfl rfl rfl rfl ?_)
   refine Zab rfl rfl rfl ?_
   refine Zab rfl rfl rfl ?_
   refine Zab rfl rfl rfl ?_
   refine Zab rfl rfl rfl ?_
   refine Zo rfl rfl rfl rfl (Zf (Zm rfl rfl rfl) rfl (ym rfl rfl ?_))
   exact Zak rfl ⟨rfl, rfl, trivial⟩ (by (unfold bF7; first | (rw [hg7_55]; rfl) | (rw [hg7_55, hg7_57]; simp)))
 refine Zcg 8 105 (bF8 k lv inf t d ti a line.length kids.length) (ρk := []) trivial ?_ ?_
 ·
  refine Zad 97 rfl (fun hg7_64 => ?_) (fun hg7_64 => ?_)
  ·
   refine Zk rfl rfl (ym rfl rfl (Zk rfl rfl (ym rfl rfl ?_)))
   refine Zad 99 rfl (fun hg7_66 => ?_) (fun hg7_66 => ?_)
   ·
    iterate 4 refine Zo rfl rfl rfl rfl ?_
    refine Zk rfl rfl (Zf (Zl rfl rfl rfl) rfl (Zf (Zl rfl rfl rfl) rfl ?_))
    exact Zak rfl trivial (by (unfold bF8; first | (rw [hg7_64]; rfl) | (rw [hg7_64, hg7_66]; simp)))
   ·
    refine Zk rfl rfl (Zf (Zi rfl Tryz.f39' rfl (by decide) rfl) rfl ?_)
    refine Zk rfl rfl (Zf (Zj rfl Tryz.k23 rfl rfl rfl (vs := [_]) rfl rfl rfl) rfl ?_)
    refine Zk rfl rfl (Zf (Zal rfl rfl Tryz.s23 rfl) rfl ?_)
    refine Zk rfl rfl (Zf (Zay rfl rfl rfl) rfl ?_)
    refine Zk rfl rfl (Zf (Zm rfl rfl rfl) rfl (Zf (Zl rfl rfl rfl) rfl ?_))
    exact Zak rfl trivial (by (unfold bF8; first | (rw [hg7_64]; rfl) | (rw [hg7_64, hg7_66]; simp)))
  ·
   refine Zo rfl rfl rfl rfl (Zo rfl rfl rfl rfl ?_)
   refine Zab rfl rfl rfl ?_
   refine Zab rfl rfl rfl ?_
   refine Zab rfl rfl rfl ?_
   refine Zab rfl rfl rfl ?_
   refine Zo rfl rfl rfl rfl (Zf (Zm rfl rfl rfl) rfl ?_)
   exact Zak rfl trivial (by (unfold bF8; first | (rw [hg7_64]; rfl) | (rw [hg7_64, hg7_66]; simp)))
 refine ya rfl rfl (Zd (ρ' := [(2, _)]) ⟨rfl, trivial⟩ ?_)
 refine Zb (Zv ?_)
 refine Zav (.tmp rfl) ?_
 rfl
theorem place_fn (k j : Int) (u : View) : FnP Tryz.prog 97 [.int .i64 k, .int .i64 j] u fun r _ => ∃ x, r = .bool x := by
 refine FnP.intro [.tmp 4] Tryz.func97 rfl rfl rfl ?_
 intro w0 D hw0
 refine Zc (Za (ya rfl rfl (Zd (ρ' := [(0, _), (1, _)]) ⟨rfl, rfl, trivial⟩ ?_)))
 refine Zb (Zc (Zc (Za (ym rfl rfl (Zd (ρ' := [(0, _), (5, _)]) ⟨rfl, rfl, trivial⟩ ?_)))))
 refine Zb (Zaa ?_)
 refine Zbv (fun ρ σ uci4 => VLe u uci4 ∧ σ = [] ∧ ρ = [(0, .v (.int .i64 k)), (5, .v (.int .i64 j)), (6, .v (.bool (decide (j = 7 ∨ j = 8))))] ∧ (u = uci4)) ?_ ?_
 ·
  refine Zc (Za (Zf (Zay rfl rfl rfl) rfl ?_))
  refine ya rfl rfl (Zd (ρ' := [(0, _), (5, _), (6, _)]) ⟨rfl, rfl, rfl, trivial⟩ ?_)
  refine Zb ?_
  refine Zn rfl (fun hb2 => ?_) (fun hb2 => ?_)
  ·
   refine Zs (Zae ?_)
   refine ⟨[(0, _), (5, _), (6, _)], [], ⟨rfl, rfl, rfl, trivial⟩, trivial, (VLe.refl _), rfl, (by first | rfl | (simp only [List.cons.injEq, Prod.mk.injEq, SV.v.injEq, Value.bool.injEq, eq_self, true_and, and_true]; exact decide_eq_decide.2 (by simp only [decide_eq_true_eq, decide_eq_false_iff_not] at *; omega))), ?_⟩
   rfl
  ·
   refine Za (Zf (Zay rfl rfl rfl) rfl ?_)
   refine ya rfl rfl (Zd (ρ' := [(0, _), (5, _), (6, _)]) ⟨rfl, rfl, rfl, trivial⟩ ?_)
   refine Zae ?_
   refine ⟨[(0, _), (5, _), (6, _)], [], ⟨rfl, rfl, rfl, trivial⟩, trivial, (VLe.refl _), rfl, (by first | rfl | (simp only [List.cons.injEq, Prod.mk.injEq, SV.v.injEq, Value.bool.injEq, eq_self, true_and, and_true]; exact decide_eq_decide.2 (by simp only [decide_eq_true_eq, decide_eq_false_iff_not] at *; omega))), ?_⟩
   rfl
 ·
  rintro ρ σ uci4 ⟨hlci4, rfl, rfl, rfl⟩
  refine Zn rfl (fun hb3 => ?_) (fun hb3 => ?_)
  ·
   refine Zc (Za (ym rfl rfl (Zf (Zay rfl rfl rfl) rfl ?_)))
   refine ya rfl rfl (Zd (ρ' := [(4, _)]) ⟨rfl, trivial⟩ ?_)
   refine Zb (Zv (Zr (Zh ?_)))
   refine Zav (.tmp rfl) ?_
   exact ⟨_, rfl⟩
  ·
   refine Zc (Za (Zf (Zay rfl rfl rfl) rfl ?_))
   refine ya rfl rfl (Zd (ρ' := [(0, _), (5, _), (11, _)]) ⟨rfl, rfl, rfl, trivial⟩ ?_)
   refine Zb ?_
   refine Zn rfl (fun hb5 => ?_) (fun hb5 => ?_)
   ·
    refine Zc (Za (ym rfl rfl (Zf (Zay rfl rfl rfl) rfl ?_)))
    refine ya rfl rfl (Zd (ρ' := [(4, _)]) ⟨rfl, trivial⟩ ?_)
    refine Zb (Zv (Zr (Zh ?_)))
    refine Zav (.tmp rfl) ?_
    exact ⟨_, rfl⟩
   ·
    refine Zc (Za (Zf (Zay rfl rfl rfl) rfl ?_))
    refine ya rfl rfl (Zd (ρ' := [(0, _), (15, _)]) ⟨rfl, rfl, trivial⟩ ?_)
    refine Zb ?_
    refine Zn rfl (fun hb7 => ?_) (fun hb7 => ?_)
    ·
     refine Zc (Za (ym rfl rfl (Zf (Zay rfl rfl rfl) rfl ?_)))
     refine ya rfl rfl (Zd (ρ' := [(4, _)]) ⟨rfl, trivial⟩ ?_)
     refine Zb (Zv (Zr (Zh ?_)))
     refine Zav (.tmp rfl) ?_
     exact ⟨_, rfl⟩
    ·
     refine Zs (Zaf (Zb (Zc (Za ?_))))
     refine Zbc 10 28 (fun _ => True) (ρk := []) trivial ?_ fun mb9_9 hm9_9 => ?_
     ·
      refine ym rfl rfl (Zf (Zcc rfl rfl rfl) rfl ?_)
      refine ym rfl rfl ?_
      refine Zad 21 rfl (fun hg9_2 => ?_) (fun hg9_2 => ?_)
      ·
       refine Zk rfl rfl (ym rfl rfl (Zk rfl rfl (Zf (Zcc rfl rfl rfl) rfl ?_)))
       refine Zf (Zl rfl rfl rfl) rfl (ym rfl rfl ?_)
       refine Zad 25 rfl (fun hg9_6 => ?_) (fun hg9_6 => ?_)
       ·
        refine Zk rfl rfl (ym rfl rfl (Zk rfl rfl (Zf (Zcc rfl rfl rfl) rfl ?_)))
        refine Zf (Zl rfl rfl rfl) rfl ?_
        exact Zx rfl trivial (trivial)
       ·
        refine Zo rfl rfl rfl rfl (Zo rfl rfl rfl rfl (Zf (Zm rfl rfl rfl) rfl ?_))
        exact Zx rfl trivial (trivial)
      ·
       refine Zo rfl rfl rfl rfl (Zo rfl rfl rfl rfl (Zf (Zm rfl rfl rfl) rfl (ym rfl rfl (Zo rfl rfl rfl rfl (Zo rfl rfl rfl rfl (Zf (Zm rfl rfl rfl) rfl ?_))))))
       exact Zx rfl trivial (trivial)
     refine ya rfl rfl (Zd (ρ' := [(4, _)]) ⟨rfl, trivial⟩ ?_)
     refine Zb (Zv ?_)
     refine Zav (.tmp rfl) ?_
     exact ⟨_, rfl⟩
theorem table_fn (k lv : Int) (inf t d ti : Bs) (a : DAttr) (line : List Inl) (kids : List Blk) (vc vp vl vk : Value) (u : View) (h : BlkK u a line kids vc vp vl vk inf t d ti) :
  FnP Tryz.prog 117 [.agg (blkV k lv inf t d ti a.id vc vp vl vk).toArray] u fun r _ => ∃ e : Int, r = .int .i64 e := by
 have oneAll := h.one k lv
 obtain ⟨s1, s2, s3, s4, ⟨q1, q2, q3, q4⟩, -, ⟨-, hsz⟩⟩ := h
 have hlk := len_szB kids
 obtain ⟨cs4, ⟨ad4, cap4, rfl, h4⟩, hc4⟩ := s4
 refine FnP.intro [.tmp 2] Tryz.func117 rfl rfl rfl ?_
 intro w0 D hw0
 refine Zc (Za (Zq rfl rfl ?_))
 refine Zbl trivial rfl (cs := [_, _, _, _, _, _, _, _, _, _, _]) rfl rfl rfl rfl ?_
 refine ya rfl rfl (Zd (ρ' := [(1, _)]) ⟨rfl, trivial⟩ ?_)
 refine Zb (Zc (Zc (Za (Zf (Zi rfl Tryz.f39' rfl (by decide) rfl) rfl ?_))))
 refine Zf (Zj rfl Tryz.k9 rfl rfl rfl (vs := [_]) rfl rfl rfl) rfl ?_
 refine Zf (Zan rfl rfl Tryz.str9 rfl) rfl ?_
 refine Zf (Zcd rfl rfl rfl) rfl ?_
 refine Zd (ρ' := [(1, _), (8, _)]) ⟨rfl, rfl, trivial⟩ ?_
 refine Zb ?_
 refine Zn rfl (fun hb1 => ?_) (fun hb1 => ?_)
 ·
  refine Zc (Za (ya rfl rfl (Zd (ρ' := [(2, _)]) ⟨rfl, trivial⟩ ?_)))
  refine Zb (Zv (Zh ?_))
  refine Zav (.tmp rfl) ?_
  exact ⟨_, rfl⟩
 ·
  refine Zs (Zb (Zc (Zc (Za (Zf (Zi rfl Tryz.f39' rfl (by decide) rfl) rfl ?_)))))
  refine Zf (Zj rfl Tryz.k9 rfl rfl rfl (vs := [_]) rfl rfl rfl) rfl ?_
  refine Zf (Zbg rfl rfl rfl) rfl ?_
  refine Zd (ρ' := [(1, _), (11, _)]) ⟨rfl, rfl, trivial⟩ ?_
  refine Zb ?_
  refine Zn rfl (fun hb3 => ?_) (fun hb3 => ?_)
  ·
   refine Zc (Za (ya rfl rfl (Zd (ρ' := [(2, _)]) ⟨rfl, trivial⟩ ?_)))
   refine Zb (Zv (Zh ?_))
   refine Zav (.tmp rfl) ?_
   exact ⟨_, rfl⟩
  ·
   refine Zs (Zb (Zc (Zc (Za (ya rfl rfl (Zd (ρ' := [(1, _), (3, _)]) ⟨rfl, rfl, trivial⟩ ?_))))))
   refine Zb (Zaa ?_)
   refine Zau (fun m ρ σ u' => ∃ i : Nat, i + m = inf.length ∧ VLe u u' ∧ σ = [(1, (none, .box (blkV k lv inf t d ti a.id vc vp vl (.slice ad4 kids.length cap4))))] ∧ ρ = [(1, .p 1 0), (3, .v (.int .i64 i))] ∧ (u = u')) (inf.length) ?_ ?_
   ·
    refine ⟨[(1, _), (3, _)], [(1, _)], ⟨rfl, rfl, trivial⟩, ⟨rfl, trivial⟩, 0, by omega, VLe.refl _, (by first | rfl | simp), (by first | rfl | (simp only [List.cons.injEq, Prod.mk.injEq, SV.v.injEq, Value.int.injEq, true_and, and_true]; omega) | simp), ?_⟩
    rfl
   ·
    rintro m ρ σ u' ⟨i, hi6, hle6, rfl, rfl, rfl⟩
    refine Zc (Zc (Za (ym rfl rfl (Zf (Zi rfl Tryz.f39' rfl (by decide) rfl) rfl ?_))))
    refine Zf (Zj rfl Tryz.k9 rfl rfl rfl (vs := [_]) rfl rfl rfl) rfl ?_
    refine Zf (Zan rfl rfl Tryz.str9 rfl) rfl ?_
    refine Zf (Zbh rfl rfl rfl) rfl ?_
    refine Zd (ρ' := [(1, _), (3, _), (16, _)]) ⟨rfl, rfl, rfl, trivial⟩ ?_
    refine Zb ?_
    refine Zn rfl (fun hb6 => ?_) (fun hb6 => ?_)
    ·
     have hlt : i < inf.length := by have := of_decide_eq_true hb6; omega
     refine Zs (Zb (Zc (Zaa (Zc (Za (Zf (Zi rfl Tryz.f39' rfl (by decide) rfl) rfl ?_))))))
     refine Zf (Zj rfl Tryz.k9 rfl rfl rfl (vs := [_]) rfl rfl rfl) rfl ?_
     refine ym rfl rfl (ym rfl rfl (Zf (Zas rfl rfl rfl (Zu (by omega))) rfl ?_))
     refine Zf (Zbt rfl Tryz.str9 rfl (i := i) (j := i + 1) rfl rfl (by omega) (by omega)) rfl ?_
     refine Zq rfl rfl ?_
     refine Zw (caps := []) trivial rfl rfl Tryz.c135 rfl (FnP.mono (khas_fn _ _ (by simp; omega) (by decide) u) ?_)
     rintro v u1 hle1 ⟨b1, rfl⟩
     refine Zf (Zbs rfl rfl) rfl ?_
     refine Zd (ρ' := [(1, _), (3, _), (26, _)]) ⟨rfl, rfl, rfl, trivial⟩ ?_
     refine Zb ?_
     refine Zn rfl (fun hb8 => ?_) (fun hb8 => ?_)
     ·
      refine Zc (Za (ya rfl rfl (Zd (ρ' := [(2, _)]) ⟨rfl, trivial⟩ ?_)))
      refine Zb (Zv (Zr (Zh (Zh (Zr (Zh ?_))))))
      refine Zav (.tmp rfl) ?_
      exact ⟨_, rfl⟩
     ·
      refine Zs (Zaf (Zb (Za (ym rfl rfl (Zf (Zas rfl rfl rfl (Zu (by omega))) rfl ?_)))))
      refine ya rfl rfl (Zd (ρ' := [(1, _), (3, _)]) ⟨rfl, rfl, trivial⟩ ?_)
      refine Zae ?_
      refine ⟨m - 1, [(1, _), (3, _)], [(1, _)], by omega, ⟨rfl, rfl, trivial⟩, ⟨rfl, trivial⟩, i + 1, by omega, hle6, (by first | rfl | simp), (by first | rfl | (simp only [List.cons.injEq, Prod.mk.injEq, SV.v.injEq, Value.int.injEq, true_and, and_true]; omega) | simp), ?_⟩
      rfl
    ·
     skip
     refine Zat ?_
     refine Zp (Zp ?_)
     refine Zah ?_
     refine Zb (Zc (Zc (Za (Zf (Zi rfl Tryz.f39' rfl (by decide) rfl) rfl ?_))))
     refine Zf (Zj rfl Tryz.k23 rfl rfl rfl (vs := [_]) rfl rfl rfl) rfl ?_
     refine Zf (Zal rfl rfl Tryz.s23 rfl) rfl ?_
     refine Zf (Zay rfl rfl rfl) rfl ?_
     refine Zd (ρ' := [(1, _), (30, _)]) ⟨rfl, rfl, trivial⟩ ?_
     refine Zb ?_
     refine Zn rfl (fun hb10 => ?_) (fun hb10 => ?_)
     ·
      refine Zc (Za (ya rfl rfl (Zd (ρ' := [(2, _)]) ⟨rfl, trivial⟩ ?_)))
      refine Zb (Zv (Zh ?_))
      refine Zav (.tmp rfl) ?_
      exact ⟨_, rfl⟩
     ·
      refine Zs (Zb (Zc (Zc (Za (ya rfl rfl (Zd (ρ' := [(1, _), (4, _)]) ⟨rfl, rfl, trivial⟩ ?_))))))
      refine Zb (Zaa ?_)
      refine Zau (fun m ρ σ u' => ∃ j : Nat, j + m = kids.length ∧ VLe u u' ∧ σ = [(1, (none, .box (blkV k lv inf t d ti a.id vc vp vl (.slice ad4 kids.length cap4))))] ∧ ρ = [(1, .p 1 0), (4, .v (.int .i64 j))] ∧ (u = u')) (kids.length) ?_ ?_
      ·
       refine ⟨[(1, _), (4, _)], [(1, _)], ⟨rfl, rfl, trivial⟩, ⟨rfl, trivial⟩, 0, by omega, VLe.refl _, (by first | rfl | simp), (by first | rfl | (simp only [List.cons.injEq, Prod.mk.injEq, SV.v.injEq, Value.int.injEq, true_and, and_true]; omega) | simp), ?_⟩
       rfl
      ·
       rintro mj ρ σ u' ⟨j, hi13, hle13, rfl, rfl, rfl⟩
       refine Zc (Zc (Za (ym rfl rfl (Zf (Zi rfl Tryz.f39' rfl (by decide) rfl) rfl ?_))))
       refine Zf (Zj rfl Tryz.k23 rfl rfl rfl (vs := [_]) rfl rfl rfl) rfl ?_
       refine Zf (Zal rfl rfl Tryz.s23 rfl) rfl ?_
       refine Zf (Zbh rfl rfl rfl) rfl ?_
       refine Zd (ρ' := [(1, _), (4, _), (35, _)]) ⟨rfl, rfl, rfl, trivial⟩ ?_
       refine Zb ?_
       refine Zn rfl (fun hb13 => ?_) (fun hb13 => ?_)
       ·
        have hlt2 : j < kids.length := by have := of_decide_eq_true hb13; omega
        obtain ⟨k2, lv2, inf2, t2, d2, ti2, a2, line2, kids2, vc2, vp2, vl2, vk2, hg2, hcut2, -, -, -, s42, hok2⟩ := hc4.at hlt2
        obtain ⟨cs42, ⟨ad42, cap42, rfl, -⟩, -⟩ := s42
        refine Zs (Zb (Zc (Zaa (Zc ?_))))
        refine Zbu Tryz.mixed rfl [(1, _)] ⟨rfl, trivial⟩ ?_
        refine ra_y (i := 0) rfl (by kernel_rfl) (by kernel_rfl) (by kernel_rfl) (Ze (Zg (Ze (Ze (Zg (Ze (Zam))))))) (Zi rfl Tryz.f39' rfl (by decide) rfl) rfl ?_
        refine ra_y (i := 1) rfl (by kernel_rfl) (by kernel_rfl) (by kernel_rfl) (Ze (Zg (Ze (Ze (Zg (Ze (Zam))))))) (Zj rfl Tryz.k23 rfl rfl rfl (vs := [_]) rfl rfl rfl) rfl ?_
        refine ra_y (i := 2) rfl (by kernel_rfl) (by kernel_rfl) (by kernel_rfl) (Ze (Zg (Ze (Ze (Zg (Ze (Zam))))))) (Zbj rfl rfl) rfl ?_
        refine ra_y (i := 3) rfl (by kernel_rfl) (by kernel_rfl) (by kernel_rfl) (Ze (Zg (Ze (Ze (Zg (Ze (Zam))))))) (Zai rfl Tryz.s23 rfl rfl (by assumption) (by first | rfl | omega) (by omega)) rfl ?_
        refine ra_y (i := 4) rfl (by kernel_rfl) (by kernel_rfl) (by kernel_rfl) (Ze (Zg (Ze (Ze (Zg (Ze (Zam))))))) (Zap rfl Tryz.f39' rfl (by decide) rfl) rfl ?_
        refine ra_y (i := 5) rfl (by kernel_rfl) (by kernel_rfl) (by kernel_rfl) (Ze (Zg (Ze (Ze (Zg (Ze (Zam))))))) (Zag rfl Tryz.k23 rfl (by assumption) (by omega) (by assumption) (vs := [_]) rfl rfl rfl rfl) rfl ?_
        refine ra_y (i := 6) rfl (by kernel_rfl) (by kernel_rfl) (by kernel_rfl) (Ze (Zg (Ze (Ze (Zg (Ze (Zam))))))) (Zal rfl rfl Tryz.s23 rfl) rfl ?_
        refine ra_y (i := 7) rfl (by kernel_rfl) (by kernel_rfl) (by kernel_rfl) (Ze (Zg (Ze (Ze (Zg (Ze (Zam))))))) (Zi rfl Tryz.f39' rfl (by decide) rfl) rfl ?_
        refine ra_y (i := 8) rfl (by kernel_rfl) (by kernel_rfl) (by kernel_rfl) (Ze (Zg (Ze (Ze (Zg (Ze (Zam))))))) (Zj rfl Tryz.k9 rfl rfl rfl (vs := [_]) rfl rfl rfl) rfl ?_
        refine ra_y (i := 9) rfl (by kernel_rfl) (by kernel_rfl) (by kernel_rfl) (Ze (Zg (Ze (Ze (Zg (Ze (Zam))))))) (Zan rfl rfl Tryz.str9 rfl) rfl ?_
        refine ra_y (i := 10) rfl (by kernel_rfl) (by kernel_rfl) (by kernel_rfl) (Ze (Zg (Ze (Ze (Zg (Ze (Zam))))))) (Zcc rfl rfl rfl) rfl ?_
        refine ra_end (by kernel_rfl) (ρ' := [(1, _), (4, _), (48, _)]) ⟨rfl, rfl, rfl, trivial⟩ ?_
        refine Zb ?_
        refine Zn rfl (fun hb15 => ?_) (fun hb15 => ?_)
        ·
         refine Zc (Za (ya rfl rfl (Zd (ρ' := [(2, _)]) ⟨rfl, trivial⟩ ?_)))
         refine Zb (Zv (Zr (Zh (Zh (Zr (Zh ?_))))))
         refine Zav (.tmp rfl) ?_
         exact ⟨_, rfl⟩
        ·
         refine Zs (Zaf (Zb (Za (ym rfl rfl (Zf (Zas rfl rfl rfl (Zu (by omega))) rfl ?_)))))
         refine ya rfl rfl (Zd (ρ' := [(1, _), (4, _)]) ⟨rfl, rfl, trivial⟩ ?_)
         refine Zae ?_
         refine ⟨mj - 1, [(1, _), (4, _)], [(1, _)], by omega, ⟨rfl, rfl, trivial⟩, ⟨rfl, trivial⟩, j + 1, by omega, hle13, (by first | rfl | simp), (by first | rfl | (simp only [List.cons.injEq, Prod.mk.injEq, SV.v.injEq, Value.int.injEq, true_and, and_true]; omega) | simp), ?_⟩
         rfl
       ·
        skip
        refine Zat ?_
        refine Zp (Zp ?_)
        refine Zah ?_
        refine Zb (Zc (Za (ya rfl rfl (Zd (ρ' := [(2, _)]) ⟨rfl, trivial⟩ ?_))))
        refine Zb (Zv ?_)
        refine Zav (.tmp rfl) ?_
        exact ⟨_, rfl⟩
theorem written_fn (k lv : Int) (inf t d ti : Bs) (a : DAttr) (line : List Inl) (kids : List Blk) (vc vp vl vk : Value) (u : View) (h : BlkK u a line kids vc vp vl vk inf t d ti) :
  FnP Tryz.prog 113 [.agg (blkV k lv inf t d ti a.id vc vp vl vk).toArray] u fun r _ => ∃ e : Int, r = .int .i64 e ∧ (e = 0 → okL 0 line) := by
 have oneAll := h.one k lv
 obtain ⟨s1, s2, s3, s4, ⟨q1, q2, q3, q4⟩, hsl, ⟨hsz, -⟩⟩ := h
 have s3' := s3
 obtain ⟨cs3, ⟨ad3, cap3, rfl, -⟩, -⟩ := s3'
 refine FnP.intro [.tmp 2] Tryz.func113 rfl rfl rfl ?_
 intro w0 D hw0
 refine Zc (Za (Zq rfl rfl ?_))
 refine Zbl trivial rfl (cs := [_, _, _, _, _, _, _, _, _, _, _]) rfl rfl rfl rfl ?_
 refine ya rfl rfl (Zd (ρ' := [(1, _)]) ⟨rfl, trivial⟩ ?_)
 refine Zb (Zc (Zc (Za ?_)))
 refine Zbc 9 12 (fun _ => True) (ρk := [(1, _)]) ⟨rfl, trivial⟩ ?_ fun mb1_8 hm1_8 => ?_
 ·
  refine Zf (Zi rfl Tryz.f39' rfl (by decide) rfl) rfl ?_
  refine Zf (Zj rfl Tryz.k3 rfl rfl rfl (vs := [_]) rfl rfl rfl) rfl ?_
  refine Zf (Zay rfl rfl rfl) rfl ?_
  refine ym rfl rfl ?_
  refine Zad 7 rfl (fun hg1_3 => ?_) (fun hg1_3 => ?_)
  ·
   refine Zk rfl rfl (Zf (Zi rfl Tryz.f39' rfl (by decide) rfl) rfl ?_)
   refine Zk rfl rfl (Zf (Zj rfl Tryz.k37 rfl rfl rfl (vs := [_]) rfl rfl rfl) rfl ?_)
   refine Zk rfl rfl (Zf (Zal rfl rfl Tryz.s37 rfl) rfl ?_)
   refine Zk rfl rfl (Zf (Zay rfl rfl rfl) rfl ?_)
   refine Zf (Zl rfl rfl rfl) rfl ?_
   exact Zx rfl ⟨rfl, trivial⟩ (trivial)
  ·
   iterate 4 refine Zo rfl rfl rfl rfl ?_
   refine Zf (Zm rfl rfl rfl) rfl ?_
   exact Zx rfl ⟨rfl, trivial⟩ (trivial)
 refine Zd (ρ' := [(1, _), (12, _)]) ⟨rfl, rfl, trivial⟩ ?_
 refine Zb ?_
 refine Zn rfl (fun hb1 => ?_) (fun hb1 => ?_)
 ·
  refine Zc (Za (ya rfl rfl (Zd (ρ' := [(2, _)]) ⟨rfl, trivial⟩ ?_)))
  refine Zb (Zv (Zh ?_))
  refine Zav (.tmp rfl) ?_
  first
  | exact ⟨_, rfl, he2⟩
  | exact ⟨_, rfl, fun h => absurd h (by decide)⟩
  | exact ⟨_, rfl, fun h => absurd h (of_decide_eq_true hb7)⟩
 ·
  refine Zs (Zb (Zc (Zc (Za (Zf (Zi rfl Tryz.f39' rfl (by decide) rfl) rfl ?_)))))
  refine Zf (Zj rfl Tryz.k3 rfl rfl rfl (vs := [_]) rfl rfl rfl) rfl ?_
  refine Zf (Zay rfl rfl rfl) rfl ?_
  refine Zd (ρ' := [(1, _), (15, _)]) ⟨rfl, rfl, trivial⟩ ?_
  refine Zb ?_
  refine Zn rfl (fun hb3 => ?_) (fun hb3 => ?_)
  ·
   refine Zc (Zc (Za ?_))
   refine Zbc 8 23 (fun _ => True) (ρk := [(1, _)]) ⟨rfl, trivial⟩ ?_ fun mb4_7 hm4_7 => ?_
   ·
    refine Zf (Zi rfl Tryz.f39' rfl (by decide) rfl) rfl ?_
    refine Zf (Zj rfl Tryz.k3 rfl rfl rfl (vs := [_]) rfl rfl rfl) rfl ?_
    refine Zf (Zbh rfl rfl rfl) rfl ?_
    refine ym rfl rfl ?_
    refine Zad 19 rfl (fun hg4_3 => ?_) (fun hg4_3 => ?_)
    ·
     iterate 3 refine Zo rfl rfl rfl rfl ?_
     refine Zf (Zl rfl rfl rfl) rfl ?_
     exact Zx rfl ⟨rfl, trivial⟩ (trivial)
    ·
     refine Zk rfl rfl (Zf (Zi rfl Tryz.f39' rfl (by decide) rfl) rfl ?_)
     refine Zk rfl rfl (Zf (Zj rfl Tryz.k3 rfl rfl rfl (vs := [_]) rfl rfl rfl) rfl ?_)
     refine Zk rfl rfl (Zf (Zcd rfl rfl rfl) rfl ?_)
     refine Zf (Zm rfl rfl rfl) rfl ?_
     exact Zx rfl ⟨rfl, trivial⟩ (trivial)
   refine Zd (ρ' := [(1, _), (23, _)]) ⟨rfl, rfl, trivial⟩ ?_
   refine Zb ?_
   refine Zn rfl (fun hb4 => ?_) (fun hb4 => ?_)
   ·
    refine Zc (Za (ya rfl rfl (Zd (ρ' := [(2, _)]) ⟨rfl, trivial⟩ ?_)))
    refine Zb (Zv (Zh (Zh ?_)))
    refine Zav (.tmp rfl) ?_
    first
    | exact ⟨_, rfl, he2⟩
    | exact ⟨_, rfl, fun h => absurd h (by decide)⟩
    | exact ⟨_, rfl, fun h => absurd h (of_decide_eq_true hb7)⟩
   ·
    refine Zs (Zb (Zc (Za (Zf (Zi rfl Tryz.f39' rfl (by decide) rfl) rfl ?_))))
    refine Zf (Zj rfl Tryz.k36 rfl rfl rfl (vs := [_, _, _]) rfl rfl rfl) rfl ?_
    refine Zq rfl rfl ?_
    refine Zw (caps := []) trivial rfl rfl Tryz.c116 rfl (FnP.mono (attrCheck_fn a vc vp ⟨by omega, q2, q3⟩ u s1 s2) ?_)
    rintro v u1 hle1 ⟨e1, rfl⟩
    refine ya rfl rfl (Zd (ρ' := [(1, _), (3, _)]) ⟨rfl, rfl, trivial⟩ ?_)
    refine Zb (Zc (Za (ym rfl rfl (Zf (Zcc rfl rfl rfl) rfl ?_))))
    refine Zd (ρ' := [(1, _), (3, _), (28, _)]) ⟨rfl, rfl, rfl, trivial⟩ ?_
    refine Zb ?_
    refine Zn rfl (fun hb7 => ?_) (fun hb7 => ?_)
    ·
     refine Zc (Za (ym rfl rfl (ya rfl rfl (Zd (ρ' := [(2, _)]) ⟨rfl, trivial⟩ ?_))))
     refine Zb (Zv (Zh ?_))
     refine Zav (.tmp rfl) ?_
     first
     | exact ⟨_, rfl, he2⟩
     | exact ⟨_, rfl, fun h => absurd h (by decide)⟩
     | exact ⟨_, rfl, fun h => absurd h (of_decide_eq_true hb7)⟩
    ·
     refine Zs (Zb (Zc (Zc (Za ?_))))
     refine Zbc 8 37 (fun _ => True) (ρk := [(1, _)]) ⟨rfl, trivial⟩ ?_ fun mb9_7 hm9_7 => ?_
     ·
      refine Zf (Zi rfl Tryz.f39' rfl (by decide) rfl) rfl ?_
      refine Zf (Zj rfl Tryz.k3 rfl rfl rfl (vs := [_]) rfl rfl rfl) rfl ?_
      refine Zf (Zcc rfl rfl rfl) rfl ?_
      refine ym rfl rfl ?_
      refine Zad 33 rfl (fun hg9_3 => ?_) (fun hg9_3 => ?_)
      ·
       refine Zk rfl rfl (Zf (Zi rfl Tryz.f39' rfl (by decide) rfl) rfl ?_)
       refine Zk rfl rfl (Zf (Zj rfl Tryz.k37 rfl rfl rfl (vs := [_]) rfl rfl rfl) rfl ?_)
       refine Zk rfl rfl (Zq rfl rfl ?_)
       refine Zw (caps := []) trivial rfl rfl Tryz.c129 rfl (FnP.mono (anyOf_fn (szI line) _ line true u (Nat.le_refl _) (by omega) s3) ?_)
       rintro v u1 hle1 ⟨b1, rfl⟩
       refine Zf (Zl rfl rfl rfl) rfl ?_
       exact Zx rfl ⟨rfl, trivial⟩ (trivial)
      ·
       iterate 3 refine Zo rfl rfl rfl rfl ?_
       refine Zf (Zm rfl rfl rfl) rfl ?_
       exact Zx rfl ⟨rfl, trivial⟩ (trivial)
     refine Zd (ρ' := [(1, _), (37, _)]) ⟨rfl, rfl, trivial⟩ ?_
     refine Zb ?_
     refine Zn rfl (fun hb9 => ?_) (fun hb9 => ?_)
     ·
      refine Zc (Za (ya rfl rfl (Zd (ρ' := [(2, _)]) ⟨rfl, trivial⟩ ?_)))
      refine Zb (Zv (Zh ?_))
      refine Zav (.tmp rfl) ?_
      first
      | exact ⟨_, rfl, he2⟩
      | exact ⟨_, rfl, fun h => absurd h (by decide)⟩
      | exact ⟨_, rfl, fun h => absurd h (of_decide_eq_true hb7)⟩
     ·
      refine Zs (Zb (Zc (Za (Zf (Zi rfl Tryz.f39' rfl (by decide) rfl) rfl ?_))))
      refine Zf (Zj rfl Tryz.k37 rfl rfl rfl (vs := [_]) rfl rfl rfl) rfl ?_
      refine Zq rfl rfl ?_
      refine Zw (caps := []) trivial rfl rfl Tryz.c130 rfl (FnP.mono (kline_fn _ line u hsz hsl s3) ?_)
      rintro v u1 hle1 ⟨e2, rfl, he2⟩
      refine ya rfl rfl (Zd (ρ' := [(2, _)]) ⟨rfl, trivial⟩ ?_)
      refine Zb (Zv ?_)
      refine Zav (.tmp rfl) ?_
      first
      | exact ⟨_, rfl, he2⟩
      | exact ⟨_, rfl, fun h => absurd h (by decide)⟩
      | exact ⟨_, rfl, fun h => absurd h (of_decide_eq_true hb7)⟩
  ·
   refine Zs (Zb (Zc (Zc (Za ?_))))
   refine Zbc 8 37 (fun _ => True) (ρk := [(1, _)]) ⟨rfl, trivial⟩ ?_ fun mb9_7 hm9_7 => ?_
   ·
    refine Zf (Zi rfl Tryz.f39' rfl (by decide) rfl) rfl ?_
    refine Zf (Zj rfl Tryz.k3 rfl rfl rfl (vs := [_]) rfl rfl rfl) rfl ?_
    refine Zf (Zcc rfl rfl rfl) rfl ?_
    refine ym rfl rfl ?_
    refine Zad 33 rfl (fun hg9_3 => ?_) (fun hg9_3 => ?_)
    ·
     refine Zk rfl rfl (Zf (Zi rfl Tryz.f39' rfl (by decide) rfl) rfl ?_)
     refine Zk rfl rfl (Zf (Zj rfl Tryz.k37 rfl rfl rfl (vs := [_]) rfl rfl rfl) rfl ?_)
     refine Zk rfl rfl (Zq rfl rfl ?_)
     refine Zw (caps := []) trivial rfl rfl Tryz.c129 rfl (FnP.mono (anyOf_fn (szI line) _ line true u (Nat.le_refl _) (by omega) s3) ?_)
     rintro v u1 hle1 ⟨b1, rfl⟩
     refine Zf (Zl rfl rfl rfl) rfl ?_
     exact Zx rfl ⟨rfl, trivial⟩ (trivial)
    ·
     iterate 3 refine Zo rfl rfl rfl rfl ?_
     refine Zf (Zm rfl rfl rfl) rfl ?_
     exact Zx rfl ⟨rfl, trivial⟩ (trivial)
   refine Zd (ρ' := [(1, _), (37, _)]) ⟨rfl, rfl, trivial⟩ ?_
   refine Zb ?_
   refine Zn rfl (fun hb9 => ?_) (fun hb9 => ?_)
   ·
    refine Zc (Za (ya rfl rfl (Zd (ρ' := [(2, _)]) ⟨rfl, trivial⟩ ?_)))
    refine Zb (Zv (Zh ?_))
    refine Zav (.tmp rfl) ?_
    first
    | exact ⟨_, rfl, he2⟩
    | exact ⟨_, rfl, fun h => absurd h (by decide)⟩
    | exact ⟨_, rfl, fun h => absurd h (of_decide_eq_true hb7)⟩
   ·
    refine Zs (Zb (Zc (Za (Zf (Zi rfl Tryz.f39' rfl (by decide) rfl) rfl ?_))))
    refine Zf (Zj rfl Tryz.k37 rfl rfl rfl (vs := [_]) rfl rfl rfl) rfl ?_
    refine Zq rfl rfl ?_
    refine Zw (caps := []) trivial rfl rfl Tryz.c130 rfl (FnP.mono (kline_fn _ line u hsz hsl s3) ?_)
    rintro v u1 hle1 ⟨e2, rfl, he2⟩
    refine ya rfl rfl (Zd (ρ' := [(2, _)]) ⟨rfl, trivial⟩ ?_)
    refine Zb (Zv ?_)
    refine Zav (.tmp rfl) ?_
    first
    | exact ⟨_, rfl, he2⟩
    | exact ⟨_, rfl, fun h => absurd h (by decide)⟩
    | exact ⟨_, rfl, fun h => absurd h (of_decide_eq_true hb7)⟩
set_option maxHeartbeats 1000000 in
theorem itself_fn (k lv : Int) (inf t d ti : Bs) (a : DAttr) (line : List Inl) (kids : List Blk) (vc vp vl vk : Value) (u : View) (h : BlkK u a line kids vc vp vl vk inf t d ti) :
  FnP Tryz.prog 98 [.agg (blkV k lv inf t d ti a.id vc vp vl vk).toArray] u fun r _ => ∃ e : Int, r = .int .i64 e ∧ (e = 0 → (k = 1 ∨ k = 2 ∨ k = 12) → okL 0 line) := by
 have oneAll := h.one k lv
 have h0 := h
 obtain ⟨s1, s2, s3, s4, ⟨q1, q2, q3, q4⟩, hsl, ⟨hsz, -⟩⟩ := h
 obtain ⟨cs4, ⟨ad4, cap4, rfl, -⟩, -⟩ := s4
 refine FnP.intro [.tmp 2] Tryz.func98 rfl rfl rfl ?_
 intro w0 D hw0
 refine Zc (Za (Zq rfl rfl ?_))
 refine Zbl trivial rfl (cs := [_, _, _, _, _, _, _, _, _, _, _]) rfl rfl rfl rfl ?_
 refine ya rfl rfl (Zd (ρ' := [(1, _)]) ⟨rfl, trivial⟩ ?_)
 refine Zb (Zc (Zc (Za (Zf (Zi rfl Tryz.f39' rfl (by decide) rfl) rfl ?_))))
 refine Zf (Zj rfl Tryz.k3 rfl rfl rfl (vs := [_]) rfl rfl rfl) rfl ?_
 refine Zd (ρ' := [(1, _), (4, _)]) ⟨rfl, rfl, trivial⟩ ?_
 refine Zb (Zaa ?_)
 refine Zbv (fun ρ σ uci5 => VLe u uci5 ∧ σ = [(1, (none, .box (blkV k lv inf t d ti a.id vc vp vl (.slice ad4 kids.length cap4))))] ∧ ρ = [(1, .p 1 0), (4, .v (.int .i64 k)), (5, .v (.bool (decide (k = 1 ∨ k = 2 ∨ k = 12))))] ∧ (u = uci5)) ?_ ?_
 ·
  refine Zc (Za (Zf (Zay rfl rfl rfl) rfl ?_))
  refine ya rfl rfl (Zd (ρ' := [(1, _), (4, _), (5, _)]) ⟨rfl, rfl, rfl, trivial⟩ ?_)
  refine Zb ?_
  refine Zn rfl (fun hb2 => ?_) (fun hb2 => ?_)
  ·
   refine Zs (Zae ?_)
   refine ⟨[(1, _), (4, _), (5, _)], [(1, _)], ⟨rfl, rfl, rfl, trivial⟩, ⟨rfl, trivial⟩, (VLe.refl _), rfl, (by first | rfl | (simp only [List.cons.injEq, Prod.mk.injEq, SV.v.injEq, Value.bool.injEq, eq_self, true_and, and_true]; exact decide_eq_decide.2 (by simp only [decide_eq_true_eq, decide_eq_false_iff_not] at *; omega))), ?_⟩
   rfl
  ·
   refine Zc (Za (Zf (Zay rfl rfl rfl) rfl ?_))
   refine ya rfl rfl (Zd (ρ' := [(1, _), (4, _), (5, _)]) ⟨rfl, rfl, rfl, trivial⟩ ?_)
   refine Zb ?_
   refine Zn rfl (fun hb3 => ?_) (fun hb3 => ?_)
   ·
    refine Zs (Zae ?_)
    refine ⟨[(1, _), (4, _), (5, _)], [(1, _)], ⟨rfl, rfl, rfl, trivial⟩, ⟨rfl, trivial⟩, (VLe.refl _), rfl, (by first | rfl | (simp only [List.cons.injEq, Prod.mk.injEq, SV.v.injEq, Value.bool.injEq, eq_self, true_and, and_true]; exact decide_eq_decide.2 (by simp only [decide_eq_true_eq, decide_eq_false_iff_not] at *; omega))), ?_⟩
    rfl
   ·
    refine Za (Zf (Zay rfl rfl rfl) rfl ?_)
    refine ya rfl rfl (Zd (ρ' := [(1, _), (4, _), (5, _)]) ⟨rfl, rfl, rfl, trivial⟩ ?_)
    refine Zae ?_
    refine ⟨[(1, _), (4, _), (5, _)], [(1, _)], ⟨rfl, rfl, rfl, trivial⟩, ⟨rfl, trivial⟩, (VLe.refl _), rfl, (by first | rfl | (simp only [List.cons.injEq, Prod.mk.injEq, SV.v.injEq, Value.bool.injEq, eq_self, true_and, and_true]; exact decide_eq_decide.2 (by simp only [decide_eq_true_eq, decide_eq_false_iff_not] at *; omega))), ?_⟩
    rfl
 ·
  rintro ρ σ uci5 ⟨hlci5, rfl, rfl, rfl⟩
  refine Zn rfl (fun hb4 => ?_) (fun hb4 => ?_)
  ·
   refine Zc (Za (Zf (Zj rfl Tryz.k39 rfl rfl rfl (vs := [_, _, _, _, _, _, _, _, _, _, _]) rfl rfl rfl) rfl ?_))
   refine Zq rfl rfl ?_
   refine Zw (caps := []) trivial rfl rfl Tryz.c113 rfl (FnP.mono (written_fn k lv inf t d ti a line kids vc vp vl _ u h0) ?_)
   rintro v u1 hle1 ⟨e1, rfl, he1⟩
   refine ya rfl rfl (Zd (ρ' := [(2, _)]) ⟨rfl, trivial⟩ ?_)
   refine Zb (Zv (Zr (Zh ?_)))
   refine Zav (.tmp rfl) ?_
   first
   | exact ⟨_, rfl, fun h => absurd h (by decide)⟩
   | exact ⟨_, rfl, fun h _ => he1 h⟩
   | (refine ⟨_, rfl, fun _ hk => ?_⟩; exfalso; simp only [decide_eq_true_eq, decide_eq_false_iff_not] at *; omega)
  ·
   refine Zc (Za (Zf (Zay rfl rfl rfl) rfl ?_))
   refine ya rfl rfl (Zd (ρ' := [(1, _), (4, _), (11, _)]) ⟨rfl, rfl, rfl, trivial⟩ ?_)
   refine Zb ?_
   refine Zn rfl (fun hb6 => ?_) (fun hb6 => ?_)
   ·
    refine Zc (Za ?_)
    refine Zbc 16 28 (fun _ => True) (ρk := []) trivial ?_ fun mb7_15 hm7_15 => ?_
    ·
     refine Zf (Zi rfl Tryz.f39' rfl (by decide) rfl) rfl ?_
     refine Zf (Zj rfl Tryz.k9 rfl rfl rfl (vs := [_]) rfl rfl rfl) rfl ?_
     refine Zq rfl rfl ?_
     refine Zw (caps := []) trivial rfl rfl Tryz.c29 rfl (FnP.mono (line4_fn inf (by omega) u) ?_)
     rintro v u1 hle1 ⟨b1, rfl, _⟩
     refine Zf (Zbs rfl rfl) rfl ?_
     refine ym rfl rfl ?_
     refine Zad 17 rfl (fun hg7_4 => ?_) (fun hg7_4 => ?_)
     ·
      iterate 4 refine Zo rfl rfl rfl rfl ?_
      refine Zf (Zl rfl rfl rfl) rfl (ym rfl rfl ?_)
      iterate 4 refine Zo rfl rfl rfl rfl ?_
      refine Zf (Zl rfl rfl rfl) rfl ?_
      exact Zx rfl trivial (trivial)
     ·
      refine Zk rfl rfl (Zf (Zi rfl Tryz.f39' rfl (by decide) rfl) rfl ?_)
      refine Zk rfl rfl (Zf (Zj rfl Tryz.k9 rfl rfl rfl (vs := [_]) rfl rfl rfl) rfl ?_)
      refine Zk rfl rfl (Zq rfl rfl ?_)
      refine Zw (caps := []) trivial rfl rfl Tryz.c30 rfl (FnP.mono (trimmed4_fn inf (by omega) u) ?_)
      rintro v u1 hle1 ⟨b2, rfl⟩
      refine Zk rfl rfl (Zf (Zbs rfl rfl) rfl ?_)
      refine Zf (Zm rfl rfl rfl) rfl (ym rfl rfl ?_)
      refine Zad 23 rfl (fun hg7_10 => ?_) (fun hg7_10 => ?_)
      ·
       iterate 4 refine Zo rfl rfl rfl rfl ?_
       refine Zf (Zl rfl rfl rfl) rfl ?_
       exact Zx rfl trivial (trivial)
      ·
       refine Zk rfl rfl (Zf (Zi rfl Tryz.f39' rfl (by decide) rfl) rfl ?_)
       refine Zk rfl rfl (Zf (Zj rfl Tryz.k9 rfl rfl rfl (vs := [_]) rfl rfl rfl) rfl ?_)
       refine Zk rfl rfl (Zq rfl rfl ?_)
       refine Zw (caps := []) trivial rfl rfl Tryz.c114 rfl (FnP.mono (body_fn t (by omega) u) ?_)
       rintro v u1 hle1 ⟨b3, rfl⟩
       refine Zk rfl rfl (Zf (Zbs rfl rfl) rfl ?_)
       refine Zf (Zm rfl rfl rfl) rfl ?_
       exact Zx rfl trivial (trivial)
    refine Zd (ρ' := [(28, _)]) ⟨rfl, trivial⟩ ?_
    refine Zb ?_
    refine Zn rfl (fun hb7 => ?_) (fun hb7 => ?_)
    ·
     refine Zc (Za (ya rfl rfl (Zd (ρ' := [(2, _)]) ⟨rfl, trivial⟩ ?_)))
     refine Zb (Zv (Zr (Zh ?_)))
     refine Zav (.tmp rfl) ?_
     first
     | exact ⟨_, rfl, fun h => absurd h (by decide)⟩
     | exact ⟨_, rfl, fun h _ => he1 h⟩
     | (refine ⟨_, rfl, fun _ hk => ?_⟩; exfalso; simp only [decide_eq_true_eq, decide_eq_false_iff_not] at *; omega)
    ·
     refine Zs (Zaf (Zb (Zc (Za (ya rfl rfl (Zd (ρ' := [(2, _)]) ⟨rfl, trivial⟩ ?_))))))
     refine Zb (Zv ?_)
     refine Zav (.tmp rfl) ?_
     first
     | exact ⟨_, rfl, fun h => absurd h (by decide)⟩
     | exact ⟨_, rfl, fun h _ => he1 h⟩
     | (refine ⟨_, rfl, fun _ hk => ?_⟩; exfalso; simp only [decide_eq_true_eq, decide_eq_false_iff_not] at *; omega)
   ·
    refine Zc (Za (Zf (Zay rfl rfl rfl) rfl ?_))
    refine ya rfl rfl (Zd (ρ' := [(1, _), (4, _), (29, _)]) ⟨rfl, rfl, rfl, trivial⟩ ?_)
    refine Zb ?_
    refine Zn rfl (fun hb9 => ?_) (fun hb9 => ?_)
    ·
     refine Zc (Zc (Za (Zf (Zi rfl Tryz.f39' rfl (by decide) rfl) rfl ?_)))
     refine Zf (Zj rfl Tryz.k9 rfl rfl rfl (vs := [_]) rfl rfl rfl) rfl ?_
     refine Zq rfl rfl ?_
     refine Zw (caps := []) trivial rfl rfl Tryz.c114 rfl (FnP.mono (body_fn t (by omega) u) ?_)
     rintro v u1 hle1 ⟨b4, rfl⟩
     refine Zf (Zbs rfl rfl) rfl ?_
     refine Zd (ρ' := [(1, _), (34, _)]) ⟨rfl, rfl, trivial⟩ ?_
     refine Zb ?_
     refine Zn rfl (fun hb10 => ?_) (fun hb10 => ?_)
     ·
      refine Zc (Za (ya rfl rfl (Zd (ρ' := [(2, _)]) ⟨rfl, trivial⟩ ?_)))
      refine Zb (Zv (Zh (Zr (Zh ?_))))
      refine Zav (.tmp rfl) ?_
      first
      | exact ⟨_, rfl, fun h => absurd h (by decide)⟩
      | exact ⟨_, rfl, fun h _ => he1 h⟩
      | (refine ⟨_, rfl, fun _ hk => ?_⟩; exfalso; simp only [decide_eq_true_eq, decide_eq_false_iff_not] at *; omega)
     ·
      refine Zs (Zb (Zc (Zc (Za (Zf (Zi rfl Tryz.f39' rfl (by decide) rfl) rfl ?_)))))
      refine Zf (Zj rfl Tryz.k9 rfl rfl rfl (vs := [_]) rfl rfl rfl) rfl ?_
      refine Zq rfl rfl ?_
      refine Zw (caps := []) trivial rfl rfl Tryz.c115 rfl (FnP.mono (closes_fn t (by omega) u) ?_)
      rintro v u1 hle1 ⟨b5, rfl⟩
      refine Zd (ρ' := [(1, _), (37, _)]) ⟨rfl, rfl, trivial⟩ ?_
      refine Zb ?_
      refine Zn rfl (fun hb12 => ?_) (fun hb12 => ?_)
      ·
       refine Zc (Za (ya rfl rfl (Zd (ρ' := [(2, _)]) ⟨rfl, trivial⟩ ?_)))
       refine Zb (Zv (Zh (Zr (Zh ?_))))
       refine Zav (.tmp rfl) ?_
       first
       | exact ⟨_, rfl, fun h => absurd h (by decide)⟩
       | exact ⟨_, rfl, fun h _ => he1 h⟩
       | (refine ⟨_, rfl, fun _ hk => ?_⟩; exfalso; simp only [decide_eq_true_eq, decide_eq_false_iff_not] at *; omega)
      ·
       refine Zs (Zb (Zc (Za (Zf (Zi rfl Tryz.f39' rfl (by decide) rfl) rfl ?_))))
       refine Zf (Zj rfl Tryz.k36 rfl rfl rfl (vs := [_, _, _]) rfl rfl rfl) rfl ?_
       refine Zq rfl rfl ?_
       refine Zw (caps := []) trivial rfl rfl Tryz.c116 rfl (FnP.mono (attrCheck_fn a vc vp ⟨by omega, q2, q3⟩ u s1 s2) ?_)
       rintro v u1 hle1 ⟨e2, rfl⟩
       refine ya rfl rfl (Zd (ρ' := [(2, _)]) ⟨rfl, trivial⟩ ?_)
       refine Zb (Zv (Zr (Zh ?_)))
       refine Zav (.tmp rfl) ?_
       first
       | exact ⟨_, rfl, fun h => absurd h (by decide)⟩
       | exact ⟨_, rfl, fun h _ => he1 h⟩
       | (refine ⟨_, rfl, fun _ hk => ?_⟩; exfalso; simp only [decide_eq_true_eq, decide_eq_false_iff_not] at *; omega)
    ·
     refine Zbv (fun ρ σ uci17 => VLe u uci17 ∧ σ = [(1, (none, .box (blkV k lv inf t d ti a.id vc vp vl (.slice ad4 kids.length cap4))))] ∧ ρ = [(1, .p 1 0), (4, .v (.int .i64 k)), (41, .v (.bool (decide (k = 7 ∨ k = 8))))] ∧ (u = uci17)) ?_ ?_
     ·
      refine Zc (Za (Zf (Zay rfl rfl rfl) rfl ?_))
      refine ya rfl rfl (Zd (ρ' := [(1, _), (4, _), (41, _)]) ⟨rfl, rfl, rfl, trivial⟩ ?_)
      refine Zb ?_
      refine Zn rfl (fun hb15 => ?_) (fun hb15 => ?_)
      ·
       refine Zs (Zae ?_)
       refine ⟨[(1, _), (4, _), (41, _)], [(1, _)], ⟨rfl, rfl, rfl, trivial⟩, ⟨rfl, trivial⟩, (VLe.refl _), rfl, (by first | rfl | (simp only [List.cons.injEq, Prod.mk.injEq, SV.v.injEq, Value.bool.injEq, eq_self, true_and, and_true]; exact decide_eq_decide.2 (by simp only [decide_eq_true_eq, decide_eq_false_iff_not] at *; omega))), ?_⟩
       rfl
      ·
       refine Za (Zf (Zay rfl rfl rfl) rfl ?_)
       refine ya rfl rfl (Zd (ρ' := [(1, _), (4, _), (41, _)]) ⟨rfl, rfl, rfl, trivial⟩ ?_)
       refine Zae ?_
       refine ⟨[(1, _), (4, _), (41, _)], [(1, _)], ⟨rfl, rfl, rfl, trivial⟩, ⟨rfl, trivial⟩, (VLe.refl _), rfl, (by first | rfl | (simp only [List.cons.injEq, Prod.mk.injEq, SV.v.injEq, Value.bool.injEq, eq_self, true_and, and_true]; exact decide_eq_decide.2 (by simp only [decide_eq_true_eq, decide_eq_false_iff_not] at *; omega))), ?_⟩
       rfl
     ·
      rintro ρ σ uci17 ⟨hlci17, rfl, rfl, rfl⟩
      refine Zn rfl (fun hb16 => ?_) (fun hb16 => ?_)
      ·
       refine Zc (Zc (Za (Zf (Zi rfl Tryz.f39' rfl (by decide) rfl) rfl ?_)))
       refine Zf (Zj rfl Tryz.k23 rfl rfl rfl (vs := [_]) rfl rfl rfl) rfl ?_
       refine Zf (Zal rfl rfl Tryz.s23 rfl) rfl ?_
       refine Zf (Zay rfl rfl rfl) rfl ?_
       refine Zd (ρ' := [(1, _), (47, _)]) ⟨rfl, rfl, trivial⟩ ?_
       refine Zb ?_
       refine Zn rfl (fun hb17 => ?_) (fun hb17 => ?_)
       ·
        refine Zc (Za (ya rfl rfl (Zd (ρ' := [(2, _)]) ⟨rfl, trivial⟩ ?_)))
        refine Zb (Zv (Zh (Zr (Zh ?_))))
        refine Zav (.tmp rfl) ?_
        first
        | exact ⟨_, rfl, fun h => absurd h (by decide)⟩
        | exact ⟨_, rfl, fun h _ => he1 h⟩
        | (refine ⟨_, rfl, fun _ hk => ?_⟩; exfalso; simp only [decide_eq_true_eq, decide_eq_false_iff_not] at *; omega)
       ·
        refine Zs (Zb (Zc (Za ?_)))
        refine Zbc 13 60 (fun _ => True) (ρk := []) trivial ?_ fun mb19_12 hm19_12 => ?_
        ·
         refine Zf (Zi rfl Tryz.f39' rfl (by decide) rfl) rfl ?_
         refine Zf (Zj rfl Tryz.k3 rfl rfl rfl (vs := [_]) rfl rfl rfl) rfl ?_
         refine Zf (Zay rfl rfl rfl) rfl ?_
         refine ym rfl rfl ?_
         refine Zad 51 rfl (fun hg19_3 => ?_) (fun hg19_3 => ?_)
         ·
          refine Zk rfl rfl (Zf (Zi rfl Tryz.f39' rfl (by decide) rfl) rfl ?_)
          refine Zk rfl rfl (Zf (Zj rfl Tryz.k3 rfl rfl rfl (vs := [_]) rfl rfl rfl) rfl ?_)
          refine Zk rfl rfl (Zf (Zbh rfl rfl rfl) rfl ?_)
          refine Zk rfl rfl (ym rfl rfl ?_)
          refine Zad 55 rfl (fun hg19_7 => ?_) (fun hg19_7 => ?_)
          ·
           iterate 3 refine Zo rfl rfl rfl rfl ?_
           refine Zk rfl rfl (Zf (Zl rfl rfl rfl) rfl (Zf (Zl rfl rfl rfl) rfl ?_))
           exact Zx rfl trivial (trivial)
          ·
           refine Zk rfl rfl (Zf (Zi rfl Tryz.f39' rfl (by decide) rfl) rfl ?_)
           refine Zk rfl rfl (Zf (Zj rfl Tryz.k3 rfl rfl rfl (vs := [_]) rfl rfl rfl) rfl ?_)
           refine Zk rfl rfl (Zf (Zcd rfl rfl rfl) rfl ?_)
           refine Zk rfl rfl (Zf (Zm rfl rfl rfl) rfl (Zf (Zl rfl rfl rfl) rfl ?_))
           exact Zx rfl trivial (trivial)
         ·
          iterate 4 refine Zo rfl rfl rfl rfl ?_
          refine Zab rfl rfl rfl ?_
          refine Zab rfl rfl rfl ?_
          refine Zab rfl rfl rfl ?_
          refine Zo rfl rfl rfl rfl (Zf (Zm rfl rfl rfl) rfl ?_)
          exact Zx rfl trivial (trivial)
        refine Zd (ρ' := [(60, _)]) ⟨rfl, trivial⟩ ?_
        refine Zb ?_
        refine Zn rfl (fun hb19 => ?_) (fun hb19 => ?_)
        ·
         refine Zc (Za (ya rfl rfl (Zd (ρ' := [(2, _)]) ⟨rfl, trivial⟩ ?_)))
         refine Zb (Zv (Zr (Zh ?_)))
         refine Zav (.tmp rfl) ?_
         first
         | exact ⟨_, rfl, fun h => absurd h (by decide)⟩
         | exact ⟨_, rfl, fun h _ => he1 h⟩
         | (refine ⟨_, rfl, fun _ hk => ?_⟩; exfalso; simp only [decide_eq_true_eq, decide_eq_false_iff_not] at *; omega)
        ·
         refine Zs (Zaf (Zb (Zc (Za (ya rfl rfl (Zd (ρ' := [(2, _)]) ⟨rfl, trivial⟩ ?_))))))
         refine Zb (Zv ?_)
         refine Zav (.tmp rfl) ?_
         first
         | exact ⟨_, rfl, fun h => absurd h (by decide)⟩
         | exact ⟨_, rfl, fun h _ => he1 h⟩
         | (refine ⟨_, rfl, fun _ hk => ?_⟩; exfalso; simp only [decide_eq_true_eq, decide_eq_false_iff_not] at *; omega)
      ·
       refine Zc (Za (Zf (Zay rfl rfl rfl) rfl ?_))
       refine ya rfl rfl (Zd (ρ' := [(1, _), (4, _), (61, _)]) ⟨rfl, rfl, rfl, trivial⟩ ?_)
       refine Zb ?_
       refine Zn rfl (fun hb21 => ?_) (fun hb21 => ?_)
       ·
        refine Zc (Za (Zf (Zj rfl Tryz.k39 rfl rfl rfl (vs := [_, _, _, _, _, _, _, _, _, _, _]) rfl rfl rfl) rfl ?_))
        refine Zq rfl rfl ?_
        refine Zw (caps := []) trivial rfl rfl Tryz.c117 rfl (FnP.mono (table_fn k lv inf t d ti a line kids vc vp vl _ u h0) ?_)
        rintro v u1 hle1 ⟨e3, rfl⟩
        refine ya rfl rfl (Zd (ρ' := [(2, _)]) ⟨rfl, trivial⟩ ?_)
        refine Zb (Zv (Zr (Zh ?_)))
        refine Zav (.tmp rfl) ?_
        first
        | exact ⟨_, rfl, fun h => absurd h (by decide)⟩
        | exact ⟨_, rfl, fun h _ => he1 h⟩
        | (refine ⟨_, rfl, fun _ hk => ?_⟩; exfalso; simp only [decide_eq_true_eq, decide_eq_false_iff_not] at *; omega)
       ·
        refine Zbv (fun ρ σ uci25 => VLe u uci25 ∧ σ = [(1, (none, .box (blkV k lv inf t d ti a.id vc vp vl (.slice ad4 kids.length cap4))))] ∧ ρ = [(1, .p 1 0), (4, .v (.int .i64 k)), (65, .v (.bool (decide (k = 13 ∨ k = 14))))] ∧ (u = uci25)) ?_ ?_
        ·
         refine Zc (Za (Zf (Zay rfl rfl rfl) rfl ?_))
         refine ya rfl rfl (Zd (ρ' := [(1, _), (4, _), (65, _)]) ⟨rfl, rfl, rfl, trivial⟩ ?_)
         refine Zb ?_
         refine Zn rfl (fun hb23 => ?_) (fun hb23 => ?_)
         ·
          refine Zs (Zae ?_)
          refine ⟨[(1, _), (4, _), (65, _)], [(1, _)], ⟨rfl, rfl, rfl, trivial⟩, ⟨rfl, trivial⟩, (VLe.refl _), rfl, (by first | rfl | (simp only [List.cons.injEq, Prod.mk.injEq, SV.v.injEq, Value.bool.injEq, eq_self, true_and, and_true]; exact decide_eq_decide.2 (by simp only [decide_eq_true_eq, decide_eq_false_iff_not] at *; omega))), ?_⟩
          rfl
         ·
          refine Za (Zf (Zay rfl rfl rfl) rfl ?_)
          refine ya rfl rfl (Zd (ρ' := [(1, _), (4, _), (65, _)]) ⟨rfl, rfl, rfl, trivial⟩ ?_)
          refine Zae ?_
          refine ⟨[(1, _), (4, _), (65, _)], [(1, _)], ⟨rfl, rfl, rfl, trivial⟩, ⟨rfl, trivial⟩, (VLe.refl _), rfl, (by first | rfl | (simp only [List.cons.injEq, Prod.mk.injEq, SV.v.injEq, Value.bool.injEq, eq_self, true_and, and_true]; exact decide_eq_decide.2 (by simp only [decide_eq_true_eq, decide_eq_false_iff_not] at *; omega))), ?_⟩
          rfl
        ·
         rintro ρ σ uci25 ⟨hlci25, rfl, rfl, rfl⟩
         refine Zn rfl (fun hb24 => ?_) (fun hb24 => ?_)
         ·
          refine Zc (Zc (Za (Zf (Zi rfl Tryz.f39' rfl (by decide) rfl) rfl ?_)))
          refine Zf (Zj rfl Tryz.k9 rfl rfl rfl (vs := [_]) rfl rfl rfl) rfl ?_
          refine Zq rfl rfl ?_
          refine Zw (caps := []) trivial rfl rfl Tryz.c28 rfl (FnP.mono (name_fn inf (by omega) u) ?_)
          rintro v u1 hle1 ⟨b6, rfl, _⟩
          refine Zf (Zbs rfl rfl) rfl ?_
          refine Zd (ρ' := [(1, _), (71, _)]) ⟨rfl, rfl, trivial⟩ ?_
          refine Zb ?_
          refine Zn rfl (fun hb25 => ?_) (fun hb25 => ?_)
          ·
           refine Zc (Za (ya rfl rfl (Zd (ρ' := [(2, _)]) ⟨rfl, trivial⟩ ?_)))
           refine Zb (Zv (Zh (Zr (Zh ?_))))
           refine Zav (.tmp rfl) ?_
           first
           | exact ⟨_, rfl, fun h => absurd h (by decide)⟩
           | exact ⟨_, rfl, fun h _ => he1 h⟩
           | (refine ⟨_, rfl, fun _ hk => ?_⟩; exfalso; simp only [decide_eq_true_eq, decide_eq_false_iff_not] at *; omega)
          ·
           refine Zs (Zb (Zc (Za (Zf (Zi rfl Tryz.f39' rfl (by decide) rfl) rfl ?_))))
           refine Zf (Zj rfl Tryz.k36 rfl rfl rfl (vs := [_, _, _]) rfl rfl rfl) rfl ?_
           refine Zq rfl rfl ?_
           refine Zw (caps := []) trivial rfl rfl Tryz.c116 rfl (FnP.mono (attrCheck_fn a vc vp ⟨by omega, q2, q3⟩ u s1 s2) ?_)
           rintro v u1 hle1 ⟨e4, rfl⟩
           refine ya rfl rfl (Zd (ρ' := [(2, _)]) ⟨rfl, trivial⟩ ?_)
           refine Zb (Zv (Zr (Zh ?_)))
           refine Zav (.tmp rfl) ?_
           first
           | exact ⟨_, rfl, fun h => absurd h (by decide)⟩
           | exact ⟨_, rfl, fun h _ => he1 h⟩
           | (refine ⟨_, rfl, fun _ hk => ?_⟩; exfalso; simp only [decide_eq_true_eq, decide_eq_false_iff_not] at *; omega)
         ·
          refine Zc (Za (Zf (Zay rfl rfl rfl) rfl ?_))
          refine ya rfl rfl (Zd (ρ' := [(1, _), (75, _)]) ⟨rfl, rfl, trivial⟩ ?_)
          refine Zb ?_
          refine Zn rfl (fun hb28 => ?_) (fun hb28 => ?_)
          ·
           refine Zc (Zc (Za (Zf (Zi rfl Tryz.f39' rfl (by decide) rfl) rfl ?_)))
           refine Zf (Zj rfl Tryz.k9 rfl rfl rfl (vs := [_]) rfl rfl rfl) rfl ?_
           refine Zq rfl rfl ?_
           refine Zw (caps := []) trivial rfl rfl Tryz.c118 rfl (FnP.mono (label_fn inf (by omega) u) ?_)
           rintro v u1 hle1 ⟨b7, rfl⟩
           refine Zf (Zbs rfl rfl) rfl ?_
           refine Zd (ρ' := [(1, _), (80, _)]) ⟨rfl, rfl, trivial⟩ ?_
           refine Zb ?_
           refine Zn rfl (fun hb29 => ?_) (fun hb29 => ?_)
           ·
            refine Zc (Za (ya rfl rfl (Zd (ρ' := [(2, _)]) ⟨rfl, trivial⟩ ?_)))
            refine Zb (Zv (Zh (Zr (Zh ?_))))
            refine Zav (.tmp rfl) ?_
            first
            | exact ⟨_, rfl, fun h => absurd h (by decide)⟩
            | exact ⟨_, rfl, fun h _ => he1 h⟩
            | (refine ⟨_, rfl, fun _ hk => ?_⟩; exfalso; simp only [decide_eq_true_eq, decide_eq_false_iff_not] at *; omega)
           ·
            refine Zs (Zb (Zc (Za ?_)))
            refine Zbc 10 90 (fun _ => True) (ρk := []) trivial ?_ fun mb31_9 hm31_9 => ?_
            ·
             refine Zf (Zi rfl Tryz.f39' rfl (by decide) rfl) rfl ?_
             refine Zf (Zj rfl Tryz.k9 rfl rfl rfl (vs := [_]) rfl rfl rfl) rfl ?_
             refine Zq rfl rfl ?_
             refine Zw (caps := []) trivial rfl rfl Tryz.c29 rfl (FnP.mono (line4_fn d (by omega) u) ?_)
             rintro v u1 hle1 ⟨b8, rfl, _⟩
             refine Zf (Zbs rfl rfl) rfl ?_
             refine ym rfl rfl ?_
             refine Zad 85 rfl (fun hg31_4 => ?_) (fun hg31_4 => ?_)
             ·
              iterate 4 refine Zo rfl rfl rfl rfl ?_
              refine Zf (Zl rfl rfl rfl) rfl ?_
              exact Zx rfl trivial (trivial)
             ·
              refine Zk rfl rfl (Zf (Zi rfl Tryz.f39' rfl (by decide) rfl) rfl ?_)
              refine Zk rfl rfl (Zf (Zj rfl Tryz.k9 rfl rfl rfl (vs := [_]) rfl rfl rfl) rfl ?_)
              refine Zk rfl rfl (Zq rfl rfl ?_)
              refine Zw (caps := []) trivial rfl rfl Tryz.c29 rfl (FnP.mono (line4_fn ti (by omega) u) ?_)
              rintro v u1 hle1 ⟨b9, rfl, _⟩
              refine Zk rfl rfl (Zf (Zbs rfl rfl) rfl ?_)
              refine Zf (Zm rfl rfl rfl) rfl ?_
              exact Zx rfl trivial (trivial)
            refine Zd (ρ' := [(90, _)]) ⟨rfl, trivial⟩ ?_
            refine Zb ?_
            refine Zn rfl (fun hb31 => ?_) (fun hb31 => ?_)
            ·
             refine Zc (Za (ya rfl rfl (Zd (ρ' := [(2, _)]) ⟨rfl, trivial⟩ ?_)))
             refine Zb (Zv (Zr (Zh ?_)))
             refine Zav (.tmp rfl) ?_
             first
             | exact ⟨_, rfl, fun h => absurd h (by decide)⟩
             | exact ⟨_, rfl, fun h _ => he1 h⟩
             | (refine ⟨_, rfl, fun _ hk => ?_⟩; exfalso; simp only [decide_eq_true_eq, decide_eq_false_iff_not] at *; omega)
            ·
             refine Zs (Zaf (Zb (Zc (Za (ya rfl rfl (Zd (ρ' := [(2, _)]) ⟨rfl, trivial⟩ ?_))))))
             refine Zb (Zv ?_)
             refine Zav (.tmp rfl) ?_
             first
             | exact ⟨_, rfl, fun h => absurd h (by decide)⟩
             | exact ⟨_, rfl, fun h _ => he1 h⟩
             | (refine ⟨_, rfl, fun _ hk => ?_⟩; exfalso; simp only [decide_eq_true_eq, decide_eq_false_iff_not] at *; omega)
          ·
           refine Zs (Zaf (Zb (Zc (Za (ya rfl rfl (Zd (ρ' := [(2, _)]) ⟨rfl, trivial⟩ ?_))))))
           refine Zb (Zv ?_)
           refine Zav (.tmp rfl) ?_
           first
           | exact ⟨_, rfl, fun h => absurd h (by decide)⟩
           | exact ⟨_, rfl, fun h _ => he1 h⟩
           | (refine ⟨_, rfl, fun _ hk => ?_⟩; exfalso; simp only [decide_eq_true_eq, decide_eq_false_iff_not] at *; omega)
mutual
def okC1 : Blk → Prop
 | .mk _ _ _ _ _ _ _ line kids => okL 0 line ∧ okC kids
def okC : List Blk → Prop
 | [] => True
 | x :: xs => okC1 x ∧ okC xs
end
theorem okC_step {xs : List Blk} {i : Nat} {x : Blk} (hg : xs[i]? = some x) (h1 : okC1 x) (h : okC (xs.drop (i + 1))) : okC (xs.drop i) := by
 obtain ⟨hlt, rfl⟩ := List.getElem?_eq_some_iff.1 hg
 rw [List.drop_eq_getElem_cons hlt]
 unfold okC
 exact ⟨h1, h⟩
theorem okL_line {k lv : Int} {inf t d ti : Bs} {a : DAttr} {line : List Inl} {m : Nat} (h : bF8 k lv inf t d ti a line.length m = true) (h2 : (k = 1 ∨ k = 2 ∨ k = 12) → okL 0 line) : okL 0 line := by
 have h7 : bF7 k lv inf t d ti a line.length = true := by
  unfold bF8 at h
  exact (Bool.and_eq_true _ _ ▸ h).1
 unfold bF7 at h7
 rcases Bool.or_eq_true _ _ ▸ (Bool.and_eq_true _ _ ▸ h7).2 with h | h
 ·
  refine h2 ?_
  unfold inB at h
  have := of_decide_eq_true h
  simpa using this
 ·
  have h := of_decide_eq_true h
  have : line = [] := List.eq_nil_of_length_eq_zero (by omega)
  rw [this]
  unfold okL
  trivial
set_option maxHeartbeats 1000000 in
theorem kblocks_fn (n : Nat) : ∀ (v : Value) (bs : List Blk) (inK dp : Int) (u : View), szB bs ≤ n → szB bs ≤ 100000 → smB bs → 0 ≤ dp → dp ≤ 16 → BlkS u v bs →
  FnP Tryz.prog 69 [v, .int .i64 inK, .int .i64 dp] u fun r _ => ∃ e : Int, r = .int .i64 e ∧ (e = 0 → okC bs) := by
 induction n using Nat.strongRecOn with
 | _ n ih =>
 intro v bs inK dp u hsz hbig hsm hd0 hd1 ha
 have hlx := len_szB bs
 obtain ⟨cs, ⟨ad, cap, rfl, h1⟩, hc1⟩ := ha
 refine FnP.intro [.tmp 6] Tryz.func69 rfl rfl rfl ?_
 intro w0 D hw0
 refine Zc (Za (ya rfl rfl (Zd (ρ' := [(0, _), (1, _), (2, _)]) ⟨rfl, rfl, rfl, trivial⟩ ?_)))
 refine Zb (Zc (Zc (Za (ya rfl rfl (Zd (ρ' := [(0, _), (1, _), (2, _), (7, _)]) ⟨rfl, rfl, rfl, rfl, trivial⟩ ?_)))))
 refine Zb (Zaa ?_)
 refine Zau (fun m ρ σ u' => ∃ i : Nat, i + m = bs.length ∧ VLe u u' ∧ σ = [] ∧ ρ = [(0, .v (.slice ad bs.length cap)), (1, .v (.int .i64 inK)), (2, .v (.int .i64 dp)), (7, .v (.int .i64 i))] ∧ (u = u' ∧ (okC (bs.drop i) → okC bs))) (bs.length) ?_ ?_
 ·
  refine ⟨[(0, _), (1, _), (2, _), (7, _)], [], ⟨rfl, rfl, rfl, rfl, trivial⟩, trivial, 0, by omega, VLe.refl _, (by first | rfl | simp), (by first | rfl | (simp only [List.cons.injEq, Prod.mk.injEq, SV.v.injEq, Value.int.injEq, true_and, and_true]; omega) | simp), ?_⟩
  exact ⟨rfl, fun h => h⟩
 ·
  rintro m ρ σ u' ⟨i, hi2, hle2, rfl, rfl, ⟨rfl, hinv⟩⟩
  refine Zc (Zc (Za (ym rfl rfl (ym rfl rfl (Zf (Zal rfl rfl Tryz.s23 rfl) rfl ?_)))))
  refine Zf (Zbh rfl rfl rfl) rfl ?_
  refine Zd (ρ' := [(0, _), (1, _), (2, _), (7, _), (13, _)]) ⟨rfl, rfl, rfl, rfl, rfl, trivial⟩ ?_
  refine Zb ?_
  refine Zn rfl (fun hb2 => ?_) (fun hb2 => ?_)
  ·
   have hlt : i < bs.length := by have := of_decide_eq_true hb2; omega
   obtain ⟨k, lv, inf, t, d, ti, a, line, kids, vc, vp, vl, vk, hg, hcut1, s1, s2, s3, s4, hok⟩ := hc1.at hlt
   have oneAll := (hc1.get i _ hg).one
   rw [hcut1] at oneAll
   have hszk := szB_kids hg
   have hsmx := smB_get hsm hg
   unfold smB1 at hsmx
   obtain ⟨q1, q2, q3, q4, q5, q6⟩ := hsmx
   have hK : BlkK u a line kids vc vp vl vk inf t d ti := ⟨s1, s2, s3, s4, ⟨by omega, q2, q3, by omega⟩, q5, ⟨by omega, by omega⟩⟩
   refine Zs (Zb (Zc (Zaa (Zc (Za (ym rfl rfl (ym rfl rfl (Zf (Zai rfl Tryz.s23 rfl rfl (by assumption) (by first | rfl | omega) (by omega)) rfl ?_))))))))
   refine Zf (Zag rfl Tryz.k39 rfl (by assumption) (by omega) (by assumption) (vs := [_, _, _, _, _, _, _, _, _, _, _]) rfl rfl rfl rfl) rfl ?_
   refine Zq rfl rfl ?_
   refine Zax trivial Tryz.z39 rfl rfl rfl ?_
   refine Zq rfl rfl ?_
   refine Zt trivial rfl Tryz.k39 rfl rfl rfl (vs := [_, _, _, _, _, _, _, _, _, _, _]) rfl rfl (by first | rfl | assumption | simp [Value.oneCell', str]) (Nat.le_of_ble_eq_true rfl) rfl ?_
   refine Zd (ρ' := [(0, _), (1, _), (2, _), (7, _), (8, _)]) ⟨rfl, rfl, rfl, rfl, rfl, trivial⟩ ?_
   refine Zb (Zc (Zc (Za (ym rfl rfl (Zf (Zcd rfl rfl rfl) rfl ?_)))))
   refine Zd (ρ' := [(0, _), (1, _), (2, _), (7, _), (8, _), (21, _)]) ⟨rfl, rfl, rfl, rfl, rfl, rfl, trivial⟩ ?_
   refine Zb ?_
   refine Zn rfl (fun hb5 => ?_) (fun hb5 => ?_)
   ·
    skip
    refine Zc (Za (ya rfl rfl (Zd (ρ' := [(6, _)]) ⟨rfl, trivial⟩ ?_)))
    refine Zb (Zv (Zh (Zr (Zh (Zh (Zr (Zh ?_)))))))
    refine Zav (.tmp rfl) ?_
    first
    | exact ⟨_, rfl, fun h => absurd h (by decide)⟩
    | exact ⟨_, rfl, fun h => absurd h (of_decide_eq_true hb13)⟩
    | exact ⟨_, rfl, fun h => absurd h (of_decide_eq_true hb10)⟩
    | exact ⟨_, rfl, fun h => hinv (by unfold okC; trivial)⟩
   ·
    have hd15 := of_decide_eq_false hb5
    refine Zs (Zb (Zc (Zc (Za ?_))))
    refine Zbc 10 31 (fun b => b = false → bF8 k lv inf t d ti a line.length kids.length = true) (ρk := [(0, _), (1, _), (2, _), (7, _), (8, _)]) ⟨rfl, rfl, rfl, rfl, rfl, trivial⟩ ?_ fun mb7_9 hm7_9 => ?_
    ·
     refine Zf (Zj rfl Tryz.k39 rfl rfl rfl (vs := [_, _, _, _, _, _, _, _, _, _, _]) rfl rfl rfl) rfl ?_
     refine Zq rfl rfl ?_
     refine Zw (caps := []) trivial rfl rfl Tryz.c96 rfl (FnP.mono (blockFields_fn k lv inf t d ti a line kids vc vp vl vk u hK) ?_)
     rintro v u1 hle1 rfl
     refine Zf (Zbs rfl rfl) rfl ?_
     refine ym rfl rfl ?_
     refine Zad 25 rfl (fun hg7_3 => ?_) (fun hg7_3 => ?_)
     ·
      iterate 5 refine Zo rfl rfl rfl rfl ?_
      refine Zf (Zl rfl rfl rfl) rfl ?_
      exact Zx rfl ⟨rfl, rfl, rfl, rfl, rfl, trivial⟩ (by (first | exact fun h => absurd h (by decide) | exact fun _ => (by simpa using hg7_3)))
     ·
      refine Zk rfl rfl (Zf (Zi rfl Tryz.f39' rfl (by decide) rfl) rfl ?_)
      refine Zk rfl rfl (Zf (Zj rfl Tryz.k3 rfl rfl rfl (vs := [_]) rfl rfl rfl) rfl ?_)
      refine Zk rfl rfl (ym rfl rfl (Zk rfl rfl (Zq rfl rfl ?_)))
      refine Zw (caps := []) trivial rfl rfl Tryz.c97 rfl (FnP.mono (place_fn k inK u) ?_)
      rintro v u1 hle1 ⟨b1, rfl⟩
      refine Zk rfl rfl (Zf (Zbs rfl rfl) rfl ?_)
      refine Zf (Zm rfl rfl rfl) rfl ?_
      exact Zx rfl ⟨rfl, rfl, rfl, rfl, rfl, trivial⟩ (by (first | exact fun h => absurd h (by decide) | exact fun _ => (by simpa using hg7_3)))
    refine Zd (ρ' := [(0, _), (1, _), (2, _), (7, _), (8, _), (31, _)]) ⟨rfl, rfl, rfl, rfl, rfl, rfl, trivial⟩ ?_
    refine Zb ?_
    refine Zn rfl (fun hb7 => ?_) (fun hb7 => ?_)
    ·
     refine Zc (Za (ya rfl rfl (Zd (ρ' := [(6, _)]) ⟨rfl, trivial⟩ ?_)))
     refine Zb (Zv (Zh (Zr (Zh (Zh (Zr (Zh ?_)))))))
     refine Zav (.tmp rfl) ?_
     first
     | exact ⟨_, rfl, fun h => absurd h (by decide)⟩
     | exact ⟨_, rfl, fun h => absurd h (of_decide_eq_true hb13)⟩
     | exact ⟨_, rfl, fun h => absurd h (of_decide_eq_true hb10)⟩
     | exact ⟨_, rfl, fun h => hinv (by unfold okC; trivial)⟩
    ·
     refine Zs (Zb (Zc (Za (Zf (Zj rfl Tryz.k39 rfl rfl rfl (vs := [_, _, _, _, _, _, _, _, _, _, _]) rfl rfl rfl) rfl ?_))))
     refine Zq rfl rfl ?_
     refine Zw (caps := []) trivial rfl rfl Tryz.c98 rfl (FnP.mono (itself_fn k lv inf t d ti a line kids vc vp vl vk u hK) ?_)
     rintro v u1 hle1 ⟨e1, rfl, he1⟩
     refine ya rfl rfl (Zd (ρ' := [(0, _), (1, _), (2, _), (7, _), (8, _), (9, _)]) ⟨rfl, rfl, rfl, rfl, rfl, rfl, trivial⟩ ?_)
     refine Zb (Zc (Zc (Za (ym rfl rfl (Zf (Zcc rfl rfl rfl) rfl ?_)))))
     refine Zd (ρ' := [(0, _), (1, _), (2, _), (7, _), (8, _), (9, _), (35, _)]) ⟨rfl, rfl, rfl, rfl, rfl, rfl, rfl, trivial⟩ ?_
     refine Zb ?_
     refine Zn rfl (fun hb10 => ?_) (fun hb10 => ?_)
     ·
      refine Zc (Za (ym rfl rfl (ya rfl rfl (Zd (ρ' := [(6, _)]) ⟨rfl, trivial⟩ ?_))))
      refine Zb (Zv (Zh (Zr (Zh (Zh (Zr (Zh ?_)))))))
      refine Zav (.tmp rfl) ?_
      first
      | exact ⟨_, rfl, fun h => absurd h (by decide)⟩
      | exact ⟨_, rfl, fun h => absurd h (of_decide_eq_true hb13)⟩
      | exact ⟨_, rfl, fun h => absurd h (of_decide_eq_true hb10)⟩
      | exact ⟨_, rfl, fun h => hinv (by unfold okC; trivial)⟩
     ·
      refine Zs (Zb (Zc (Za (Zf (Zi rfl Tryz.f39' rfl (by decide) rfl) rfl ?_))))
      refine Zf (Zj rfl Tryz.k23 rfl rfl rfl (vs := [_]) rfl rfl rfl) rfl ?_
      refine Zf (Zi rfl Tryz.f39' rfl (by decide) rfl) rfl ?_
      refine Zf (Zj rfl Tryz.k3 rfl rfl rfl (vs := [_]) rfl rfl rfl) rfl ?_
      refine ym rfl rfl (Zf (Zas rfl rfl rfl (Zu (by omega))) rfl ?_)
      refine Zq rfl rfl ?_
      refine Zw (caps := []) trivial rfl rfl Tryz.c69 rfl (FnP.mono (ih (szB kids) (by omega) vk kids k (dp + 1) u (Nat.le_refl _) (by omega) q6 (by omega) (by omega) s4) ?_)
      rintro v u1 hle1 ⟨e2, rfl, he2⟩
      refine ya rfl rfl (Zd (ρ' := [(0, _), (1, _), (2, _), (7, _), (9, _)]) ⟨rfl, rfl, rfl, rfl, rfl, trivial⟩ ?_)
      refine Zb (Zc (Za (ym rfl rfl (Zf (Zcc rfl rfl rfl) rfl ?_))))
      refine Zd (ρ' := [(0, _), (1, _), (2, _), (7, _), (9, _), (45, _)]) ⟨rfl, rfl, rfl, rfl, rfl, rfl, trivial⟩ ?_
      refine Zb ?_
      refine Zn rfl (fun hb13 => ?_) (fun hb13 => ?_)
      ·
       refine Zc (Za (ym rfl rfl (ya rfl rfl (Zd (ρ' := [(6, _)]) ⟨rfl, trivial⟩ ?_))))
       refine Zb (Zv (Zr (Zh (Zh (Zr (Zh ?_))))))
       refine Zav (.tmp rfl) ?_
       first
       | exact ⟨_, rfl, fun h => absurd h (by decide)⟩
       | exact ⟨_, rfl, fun h => absurd h (of_decide_eq_true hb13)⟩
       | exact ⟨_, rfl, fun h => absurd h (of_decide_eq_true hb10)⟩
       | exact ⟨_, rfl, fun h => hinv (by unfold okC; trivial)⟩
      ·
       refine Zs (Zaf (Zb (Za (ym rfl rfl (Zf (Zas rfl rfl rfl (Zu (by omega))) rfl ?_)))))
       refine ya rfl rfl (Zd (ρ' := [(0, _), (1, _), (2, _), (7, _)]) ⟨rfl, rfl, rfl, rfl, trivial⟩ ?_)
       refine Zae ?_
       refine ⟨m - 1, [(0, _), (1, _), (2, _), (7, _)], [], by omega, ⟨rfl, rfl, rfl, rfl, trivial⟩, trivial, i + 1, by omega, hle2, (by first | rfl | simp), (by first | rfl | (simp only [List.cons.injEq, Prod.mk.injEq, SV.v.injEq, Value.int.injEq, true_and, and_true]; omega) | simp), ?_⟩
       have z1 : e1 = 0 := Decidable.of_not_not (of_decide_eq_false hb10)
       have z2 : e2 = 0 := Decidable.of_not_not (of_decide_eq_false hb13)
       have hF := hm7_9 hb7
       exact ⟨rfl, fun h => hinv (okC_step hg (by unfold okC1; exact ⟨okL_line hF (he1 z1), he2 z2⟩) h)⟩
  ·
   have hge := of_decide_eq_false hb2
   rw [List.drop_eq_nil_of_le (by omega)] at hinv
   refine Zat ?_
   refine Zp (Zp ?_)
   refine Zah ?_
   refine Zb (Zc (Za (ya rfl rfl (Zd (ρ' := [(6, _)]) ⟨rfl, trivial⟩ ?_))))
   refine Zb (Zv ?_)
   refine Zav (.tmp rfl) ?_
   first
   | exact ⟨_, rfl, fun h => absurd h (by decide)⟩
   | exact ⟨_, rfl, fun h => absurd h (of_decide_eq_true hb13)⟩
   | exact ⟨_, rfl, fun h => absurd h (of_decide_eq_true hb10)⟩
   | exact ⟨_, rfl, fun h => hinv (by unfold okC; trivial)⟩
theorem kcount_fn (n : Nat) : ∀ (v : Value) (xs : List Inl) (u : View), szI xs ≤ n → szI xs ≤ 1000000 → InlS u v xs → FnP Tryz.prog 92 [v] u fun r _ => r = .int .i64 (szI xs : Nat) := by
 induction n using Nat.strongRecOn with
 | _ n ih =>
 intro v xs u hsz hbig ha
 have hlx := len_szI xs
 obtain ⟨cs, ⟨ad, cap, rfl, h1⟩, hc1⟩ := ha
 refine FnP.intro [.tmp 2] Tryz.func92 rfl rfl rfl ?_
 intro w0 D hw0
 refine Zc (Za (ya rfl rfl (Zd (ρ' := [(0, _)]) ⟨rfl, trivial⟩ ?_)))
 refine Zb (Zc (Za (ym rfl rfl (Zf (Zal rfl rfl Tryz.s37 rfl) rfl ?_))))
 refine ya rfl rfl (Zd (ρ' := [(0, _), (3, _)]) ⟨rfl, rfl, trivial⟩ ?_)
 refine Zb (Zc (Zc (Za (ya rfl rfl (Zd (ρ' := [(0, _), (3, _), (4, _)]) ⟨rfl, rfl, rfl, trivial⟩ ?_)))))
 refine Zb (Zaa ?_)
 refine Zau (fun m ρ σ u' => ∃ i : Nat, i + m = xs.length ∧ VLe u u' ∧ ∃ (z : Int), σ = [] ∧ ρ = [(0, .v (.slice ad xs.length cap)), (3, .v (.int .i64 z)), (4, .v (.int .i64 i))] ∧ (u = u' ∧ z + i = xs.length + (szI (xs.take i) : Nat))) (xs.length) ?_ ?_
 ·
  refine ⟨[(0, _), (3, _), (4, _)], [], ⟨rfl, rfl, rfl, trivial⟩, trivial, 0, by omega, VLe.refl _, xs.length, (by first | rfl | simp), (by first | rfl | (simp only [List.cons.injEq, Prod.mk.injEq, SV.v.injEq, Value.int.injEq, true_and, and_true]; omega) | simp), ?_⟩
  exact ⟨rfl, by simp [szI]⟩
 ·
  rintro m ρ σ u' ⟨i, hi3, hle3, z, rfl, rfl, ⟨rfl, hinv⟩⟩
  refine Zc (Zc (Za (ym rfl rfl (ym rfl rfl (Zf (Zal rfl rfl Tryz.s37 rfl) rfl ?_)))))
  refine Zf (Zbh rfl rfl rfl) rfl ?_
  refine Zd (ρ' := [(0, _), (3, _), (4, _), (10, _)]) ⟨rfl, rfl, rfl, rfl, trivial⟩ ?_
  refine Zb ?_
  refine Zn rfl (fun hb3 => ?_) (fun hb3 => ?_)
  ·
   have hlt : i < xs.length := by have := of_decide_eq_true hb3; omega
   obtain ⟨k, t, d, ti, a, args, cites, kids, vc, vp, va, vt, vk, hg, hcut1, s1, s2, s3, s4, s5, hok⟩ := hc1.at hlt
   have oneAll := (hc1.get i _ hg).one
   rw [hcut1] at oneAll
   have hszk := szI_kids hg
   have hst := szI_take hg
   have hstl := szI_take_le xs i
   have hstl2 := szI_take_le xs (i + 1)
   simp only [sz1] at hst
   refine Zs (Zb (Zc (Zaa (Za (ym rfl rfl (ym rfl rfl (ym rfl rfl (Zf (Zai rfl Tryz.s37 rfl rfl (by assumption) (by first | rfl | omega) (by omega)) rfl ?_))))))))
   refine Zf (Zap rfl Tryz.f45' rfl (by decide) rfl) rfl ?_
   refine Zf (Zag rfl Tryz.k37 rfl (by assumption) (by omega) (by assumption) (vs := [_]) rfl rfl rfl rfl) rfl ?_
   refine Zq rfl rfl ?_
   refine Zw (caps := []) trivial rfl rfl Tryz.c92 rfl (FnP.mono (ih (szI kids) (by omega) vk kids u (Nat.le_refl _) (by omega) s5) ?_)
   rintro v u1 hle1 rfl
   refine Zf (Zas rfl rfl rfl (Zu (by omega))) rfl ?_
   refine ya rfl rfl (Zd (ρ' := [(0, _), (3, _), (4, _)]) ⟨rfl, rfl, rfl, trivial⟩ ?_)
   refine Zaf (Zb (Za (ym rfl rfl (Zf (Zas rfl rfl rfl (Zu (by omega))) rfl ?_))))
   refine ya rfl rfl (Zd (ρ' := [(0, _), (3, _), (4, _)]) ⟨rfl, rfl, rfl, trivial⟩ ?_)
   refine Zae ?_
   refine ⟨m - 1, [(0, _), (3, _), (4, _)], [], by omega, ⟨rfl, rfl, rfl, trivial⟩, trivial, i + 1, by omega, hle3, _, (by first | rfl | simp), (by first | rfl | (simp only [List.cons.injEq, Prod.mk.injEq, SV.v.injEq, Value.int.injEq, true_and, and_true]; omega) | simp), ?_⟩
   exact ⟨rfl, by omega⟩
  ·
   have hge := of_decide_eq_false hb3
   rw [List.take_of_length_le (by omega)] at hinv
   refine Zat ?_
   refine Zp (Zp ?_)
   refine Zah ?_
   refine Zb (Zc (Za (ym rfl rfl (ya rfl rfl (Zd (ρ' := [(2, _)]) ⟨rfl, trivial⟩ ?_)))))
   refine Zb (Zv ?_)
   refine Zav (.tmp rfl) ?_
   congr 1; omega
theorem szB_take' {xs : List Blk} {i : Nat} {x : Blk} (h : xs[i]? = some x) : szB (xs.take (i + 1)) = szB (xs.take i) + szb x := by
 obtain ⟨hlt, rfl⟩ := List.getElem?_eq_some_iff.1 h
 have happ : ∀ a b : List Blk, szB (a ++ b) = szB a + szB b := by
  intro a b
  induction a with
  | nil => simp [szB]
  | cons x a ih => rw [List.cons_append]; simp only [szB, ih, Nat.add_assoc]
 rw [List.take_succ_eq_append_getElem hlt, happ]
 simp [szB]
theorem sizes_fn (n : Nat) : ∀ (v : Value) (bs : List Blk) (u : View), szB bs ≤ n → szB bs ≤ 1000000 → BlkS u v bs → FnP Tryz.prog 65 [v] u fun r _ => r = .int .i64 (szB bs : Nat) := by
 induction n using Nat.strongRecOn with
 | _ n ih =>
 intro v bs u hsz hbig ha
 have hlx := len_szB bs
 obtain ⟨cs, ⟨ad, cap, rfl, h1⟩, hc1⟩ := ha
 refine FnP.intro [.tmp 2] Tryz.func65 rfl rfl rfl ?_
 intro w0 D hw0
 refine Zc (Za (ya rfl rfl (Zd (ρ' := [(0, _)]) ⟨rfl, trivial⟩ ?_)))
 refine Zb (Zc (Za (ym rfl rfl (Zf (Zal rfl rfl Tryz.s23 rfl) rfl ?_))))
 refine ya rfl rfl (Zd (ρ' := [(0, _), (3, _)]) ⟨rfl, rfl, trivial⟩ ?_)
 refine Zb (Zc (Zc (Za (ya rfl rfl (Zd (ρ' := [(0, _), (3, _), (4, _)]) ⟨rfl, rfl, rfl, trivial⟩ ?_)))))
 refine Zb (Zaa ?_)
 refine Zau (fun m ρ σ u' => ∃ i : Nat, i + m = bs.length ∧ VLe u u' ∧ ∃ (z : Int), σ = [] ∧ ρ = [(0, .v (.slice ad bs.length cap)), (3, .v (.int .i64 z)), (4, .v (.int .i64 i))] ∧ (u = u' ∧ z + i = bs.length + (szB (bs.take i) : Nat))) (bs.length) ?_ ?_
 ·
  refine ⟨[(0, _), (3, _), (4, _)], [], ⟨rfl, rfl, rfl, trivial⟩, trivial, 0, by omega, VLe.refl _, bs.length, (by first | rfl | simp), (by first | rfl | (simp only [List.cons.injEq, Prod.mk.injEq, SV.v.injEq, Value.int.injEq, true_and, and_true]; omega) | simp), ?_⟩
  exact ⟨rfl, by simp [szB]⟩
 ·
  rintro m ρ σ u' ⟨i, hi3, hle3, z, rfl, rfl, ⟨rfl, hinv⟩⟩
  refine Zc (Zc (Za (ym rfl rfl (ym rfl rfl (Zf (Zal rfl rfl Tryz.s23 rfl) rfl ?_)))))
  refine Zf (Zbh rfl rfl rfl) rfl ?_
  refine Zd (ρ' := [(0, _), (3, _), (4, _), (10, _)]) ⟨rfl, rfl, rfl, rfl, trivial⟩ ?_
  refine Zb ?_
  refine Zn rfl (fun hb3 => ?_) (fun hb3 => ?_)
  ·
   have hlt : i < bs.length := by have := of_decide_eq_true hb3; omega
   obtain ⟨k, lv, inf, t, d, ti, a, line, kids, vc, vp, vl, vk, hg, hcut1, s1, s2, s3, s4, hok⟩ := hc1.at hlt
   have oneAll := (hc1.get i _ hg).one
   rw [hcut1] at oneAll
   have hszk := szB_kids hg
   have hst := szB_take' hg
   have hstl := szB_take_le bs i
   have hstl2 := szB_take_le bs (i + 1)
   simp only [szb] at hst
   refine Zs (Zb (Zc (Zaa ?_)))
   refine Zbu Tryz.mixed rfl [] trivial ?_
   refine ra_y (i := 0) rfl (by kernel_rfl) (by kernel_rfl) (by kernel_rfl) (Zg (Ze (Ze (Zg (Ze (Zam)))))) (Zbj rfl rfl) rfl ?_
   refine ra_y (i := 1) rfl (by kernel_rfl) (by kernel_rfl) (by kernel_rfl) (Zg (Ze (Ze (Zg (Ze (Zam)))))) (Zbj rfl rfl) rfl ?_
   refine ra_y (i := 2) rfl (by kernel_rfl) (by kernel_rfl) (by kernel_rfl) (Zg (Ze (Ze (Zg (Ze (Zam)))))) (Zbj rfl rfl) rfl ?_
   refine ra_y (i := 3) rfl (by kernel_rfl) (by kernel_rfl) (by kernel_rfl) (Zg (Ze (Ze (Zg (Ze (Zam)))))) (Zai rfl Tryz.s23 rfl rfl (by assumption) (by first | rfl | omega) (by omega)) rfl ?_
   refine ra_y (i := 4) rfl (by kernel_rfl) (by kernel_rfl) (by kernel_rfl) (Zg (Ze (Ze (Zg (Ze (Zam)))))) (Zap rfl Tryz.f39' rfl (by decide) rfl) rfl ?_
   refine ra_y (i := 5) rfl (by kernel_rfl) (by kernel_rfl) (by kernel_rfl) (Zg (Ze (Ze (Zg (Ze (Zam)))))) (Zag rfl Tryz.k37 rfl (by assumption) (by omega) (by assumption) (vs := [_]) rfl rfl rfl rfl) rfl ?_
   refine ra_y (i := 7) rfl (by kernel_rfl) (by kernel_rfl) (by kernel_rfl) (Zg (Ze (Ze (Zg (Ze (Zam)))))) (Zbj rfl rfl) rfl ?_
   refine ra_y (i := 8) rfl (by kernel_rfl) (by kernel_rfl) (by kernel_rfl) (Zg (Ze (Ze (Zg (Ze (Zam)))))) (Zbj rfl rfl) rfl ?_
   refine ra_y (i := 9) rfl (by kernel_rfl) (by kernel_rfl) (by kernel_rfl) (Zg (Ze (Ze (Zg (Ze (Zam)))))) (Zai rfl Tryz.s23 rfl rfl (by assumption) (by first | rfl | omega) (by omega)) rfl ?_
   refine ra_y (i := 10) rfl (by kernel_rfl) (by kernel_rfl) (by kernel_rfl) (Zg (Ze (Ze (Zg (Ze (Zam)))))) (Zap rfl Tryz.f39' rfl (by decide) rfl) rfl ?_
   refine ra_y (i := 11) rfl (by kernel_rfl) (by kernel_rfl) (by kernel_rfl) (Zg (Ze (Ze (Zg (Ze (Zam)))))) (Zag rfl Tryz.k23 rfl (by assumption) (by omega) (by assumption) (vs := [_]) rfl rfl rfl rfl) rfl ?_
   refine ra_do (i := 6) rfl rfl (by kernel_rfl) ?_
   refine Zw (caps := []) trivial rfl rfl Tryz.c92 rfl (FnP.mono (kcount_fn (szI line) vl line u (Nat.le_refl _) (by omega) s3) ?_)
   rintro v u1 hle1 rfl
   refine ra_do (i := 12) rfl rfl (by kernel_rfl) ?_
   refine Zw (caps := []) trivial rfl rfl Tryz.c65 rfl (FnP.mono (ih (szB kids) (by omega) vk kids u (Nat.le_refl _) (by omega) s4) ?_)
   rintro v u1 hle1 rfl
   refine ra_y (i := 13) rfl (by kernel_rfl) (by kernel_rfl) (by kernel_rfl) (Zg (Ze (Ze (Zg (Ze (Zam)))))) (Zas rfl rfl rfl (Zu (by omega))) rfl ?_
   refine ra_y (i := 14) rfl (by kernel_rfl) (by kernel_rfl) (by kernel_rfl) (Zg (Ze (Ze (Zg (Ze (Zam)))))) (Zas rfl rfl rfl (Zu (by omega))) rfl ?_
   refine ra_y (i := 15) rfl (by kernel_rfl) (by kernel_rfl) (by kernel_rfl) (Zg (Ze (Ze (Zg (Ze (Zam)))))) (y_assign rfl rfl) rfl ?_
   refine ra_end (by kernel_rfl) (ρ' := [(0, _), (3, _), (4, _)]) ⟨rfl, rfl, rfl, trivial⟩ ?_
   refine Zaf (Zb (Za (ym rfl rfl (Zf (Zas rfl rfl rfl (Zu (by omega))) rfl ?_))))
   refine ya rfl rfl (Zd (ρ' := [(0, _), (3, _), (4, _)]) ⟨rfl, rfl, rfl, trivial⟩ ?_)
   refine Zae ?_
   refine ⟨m - 1, [(0, _), (3, _), (4, _)], [], by omega, ⟨rfl, rfl, rfl, trivial⟩, trivial, i + 1, by omega, hle3, _, (by first | rfl | simp), (by first | rfl | (simp only [List.cons.injEq, Prod.mk.injEq, SV.v.injEq, Value.int.injEq, true_and, and_true]; omega) | simp), ?_⟩
   exact ⟨rfl, by omega⟩
  ·
   have hge := of_decide_eq_false hb3
   rw [List.take_of_length_le (by omega)] at hinv
   refine Zat ?_
   refine Zp (Zp ?_)
   refine Zah ?_
   refine Zb (Zc (Za (ym rfl rfl (ya rfl rfl (Zd (ρ' := [(2, _)]) ⟨rfl, trivial⟩ ?_)))))
   refine Zb (Zv ?_)
   refine Zav (.tmp rfl) ?_
   congr 1; omega
theorem size_fn (d : DDoc) (vm vb : Value) (u : View) (hbig : szB d.blocks ≤ 1000000) (hb : BlkS u vb d.blocks) : FnP Tryz.prog 27 [.agg #[vm, vb]] u fun r _ => r = .int .i64 (szB d.blocks : Nat) := by
 refine FnP.intro [.tmp 2] Tryz.func27 rfl rfl rfl ?_
 intro w0 D hw0
 refine Zc (Za (Zq rfl rfl ?_))
 refine Zbl trivial rfl (cs := [_, _]) rfl rfl rfl rfl ?_
 refine ya rfl rfl (Zd (ρ' := [(1, _)]) ⟨rfl, trivial⟩ ?_)
 refine Zb (Zc (Za (Zf (Zi rfl Tryz.f25' rfl (by decide) rfl) rfl ?_)))
 refine Zf (Zj rfl Tryz.k23 rfl rfl rfl (vs := [_]) rfl rfl rfl) rfl ?_
 refine Zq rfl rfl ?_
 refine Zw (caps := []) trivial rfl rfl Tryz.c65 rfl (FnP.mono (sizes_fn (szB d.blocks) vb d.blocks u (Nat.le_refl _) hbig hb) ?_)
 rintro v u1 hle1 rfl
 refine ya rfl rfl (Zd (ρ' := [(2, _)]) ⟨rfl, trivial⟩ ?_)
 refine Zb (Zv ?_)
 refine Zav (.tmp rfl) ?_
 rfl
theorem allBlocks_fn (v : Value) (bs : List Blk) (u : View) (hbig : szB bs ≤ 100000) (hsm : smB bs) (ha : BlkS u v bs) : FnP Tryz.prog 31 [v] u fun r _ => ∃ e : Int, r = .int .i64 e ∧ (e = 0 → okC bs) := by
 refine FnP.intro [.tmp 2] Tryz.func31 rfl rfl rfl ?_
 intro w0 D hw0
 refine Zc (Za (ya rfl rfl (Zd (ρ' := [(0, _)]) ⟨rfl, trivial⟩ ?_)))
 refine Zb (Zc (Za (ym rfl rfl (Zq rfl rfl ?_))))
 refine Zw (caps := []) trivial rfl rfl Tryz.c69 rfl (FnP.mono (kblocks_fn (szB bs) v bs 0 0 u (Nat.le_refl _) hbig hsm (by omega) (by omega) ha) ?_)
 rintro v u1 hle1 ⟨e, rfl, he⟩
 refine ya rfl rfl (Zd (ρ' := [(2, _)]) ⟨rfl, trivial⟩ ?_)
 refine Zb (Zv ?_)
 refine Zav (.tmp rfl) ?_
 exact ⟨_, rfl, he⟩
set_option maxHeartbeats 1000000 in
theorem docCheck_fn (d : DDoc) (vm vb : Value) (u : View) (hm : PrS u vm d.mts) (hb : BlkS u vb d.blocks) (hml : d.mts.length ≤ 1000) (hms : ∀ p ∈ d.mts, p.1.length + p.2.length ≤ 1000000) (hbig : szB d.blocks ≤ 100000) (hsm : smB d.blocks) :
  FnP Tryz.prog 12 [.agg #[vm, vb]] u fun r _ => ∃ e : Int, r = .int .i64 e ∧ (e = 0 → okC d.blocks) := by
 have ob : Value.oneCell' vb = true := by obtain ⟨cs, h, -⟩ := hb; exact h.one
 obtain ⟨ad, cap, rfl, h1⟩ := hm
 refine FnP.intro [.tmp 2] Tryz.func12 rfl rfl rfl ?_
 intro w0 D hw0
 refine Zc (Za (Zq rfl rfl ?_))
 refine Zbl trivial rfl (cs := [_, _]) rfl rfl rfl rfl ?_
 refine ya rfl rfl (Zd (ρ' := [(1, _)]) ⟨rfl, trivial⟩ ?_)
 refine Zb (Zc (Zc (Za ?_)))
 refine Zbc 9 14 (fun _ => True) (ρk := [(1, _)]) ⟨rfl, trivial⟩ ?_ fun mb1_8 hm1_8 => ?_
 ·
  refine Zf (Zj rfl Tryz.k25 rfl rfl rfl (vs := [_, _]) rfl rfl rfl) rfl ?_
  refine Zq rfl rfl ?_
  refine Zw (caps := []) trivial rfl rfl Tryz.c27 rfl (FnP.mono (size_fn d _ vb u (by omega) hb) ?_)
  rintro v u1 hle1 rfl
  refine Zf (Zcd rfl rfl rfl) rfl ?_
  refine ym rfl rfl ?_
  refine Zad 9 rfl (fun hg1_3 => ?_) (fun hg1_3 => ?_)
  ·
   iterate 4 refine Zo rfl rfl rfl rfl ?_
   refine Zf (Zl rfl rfl rfl) rfl ?_
   exact Zx rfl ⟨rfl, trivial⟩ (trivial)
  ·
   refine Zk rfl rfl (Zf (Zi rfl Tryz.f25' rfl (by decide) rfl) rfl ?_)
   refine Zk rfl rfl (Zf (Zj rfl Tryz.k22 rfl rfl rfl (vs := [_]) rfl rfl rfl) rfl ?_)
   refine Zk rfl rfl (Zf (Zal rfl rfl Tryz.s22 rfl) rfl ?_)
   refine Zk rfl rfl (Zf (Zcd rfl rfl rfl) rfl ?_)
   refine Zf (Zm rfl rfl rfl) rfl ?_
   exact Zx rfl ⟨rfl, trivial⟩ (trivial)
 refine Zd (ρ' := [(1, _), (14, _)]) ⟨rfl, rfl, trivial⟩ ?_
 refine Zb ?_
 refine Zn rfl (fun hb1 => ?_) (fun hb1 => ?_)
 ·
  refine Zc (Za (ya rfl rfl (Zd (ρ' := [(2, _)]) ⟨rfl, trivial⟩ ?_)))
  refine Zb (Zv (Zh ?_))
  refine Zav (.tmp rfl) ?_
  first
  | exact ⟨_, rfl, he⟩
  | exact ⟨_, rfl, fun h => absurd h (by decide)⟩
 ·
  refine Zs (Zb (Zc (Zc (Za (ya rfl rfl (Zd (ρ' := [(1, _), (3, _)]) ⟨rfl, rfl, trivial⟩ ?_))))))
  refine Zb (Zaa ?_)
  refine Zau (fun m ρ σ u' => ∃ i : Nat, i + m = d.mts.length ∧ VLe u u' ∧ σ = [(1, (none, .box [.slice ad d.mts.length cap, vb]))] ∧ ρ = [(1, .p 1 0), (3, .v (.int .i64 i))] ∧ (u = u')) (d.mts.length) ?_ ?_
  ·
   refine ⟨[(1, _), (3, _)], [(1, _)], ⟨rfl, rfl, trivial⟩, ⟨rfl, trivial⟩, 0, by omega, VLe.refl _, (by first | rfl | simp), (by first | rfl | (simp only [List.cons.injEq, Prod.mk.injEq, SV.v.injEq, Value.int.injEq, true_and, and_true]; omega) | simp), ?_⟩
   rfl
  ·
   rintro m ρ σ u' ⟨i, hi4, hle4, rfl, rfl, rfl⟩
   refine Zc (Zc (Za (ym rfl rfl (Zf (Zi rfl Tryz.f25' rfl (by decide) rfl) rfl ?_))))
   refine Zf (Zj rfl Tryz.k22 rfl rfl rfl (vs := [_]) rfl rfl rfl) rfl ?_
   refine Zf (Zal rfl rfl Tryz.s22 rfl) rfl ?_
   refine Zf (Zbh rfl rfl rfl) rfl ?_
   refine Zd (ρ' := [(1, _), (3, _), (19, _)]) ⟨rfl, rfl, rfl, trivial⟩ ?_
   refine Zb ?_
   refine Zn rfl (fun hb4 => ?_) (fun hb4 => ?_)
   ·
    have hlt : i < d.mts.length := by have := of_decide_eq_true hb4; omega
    have hg := List.getElem?_eq_getElem hlt
    have hcc := cut_pairsC hg
    have hsl := hms _ (List.mem_of_getElem? hg)
    refine Zs (Zb (Zc (Zaa (Zc (Za (Zf (Zi rfl Tryz.f25' rfl (by decide) rfl) rfl ?_))))))
    refine Zf (Zj rfl Tryz.k22 rfl rfl rfl (vs := [_]) rfl rfl rfl) rfl ?_
    refine ym rfl rfl (Zf (Zai rfl Tryz.s22 rfl rfl (by assumption) (by first | rfl | omega) (by omega)) rfl ?_)
    refine Zf (Zag rfl Tryz.k49 rfl (by assumption) (by omega) (by assumption) (vs := [_, _]) rfl rfl rfl rfl) rfl ?_
    refine Zq rfl rfl ?_
    refine Zax trivial Tryz.z49 rfl rfl rfl ?_
    refine Zq rfl rfl ?_
    refine Zt trivial rfl Tryz.k49 rfl rfl rfl (vs := [_, _]) rfl rfl (by first | rfl | assumption | simp [Value.oneCell', str]) (Nat.le_of_ble_eq_true rfl) rfl ?_
    refine Zd (ρ' := [(1, _), (3, _), (4, _)]) ⟨rfl, rfl, rfl, trivial⟩ ?_
    refine Zb (Zc (Zc (Za (Zf (Zi rfl Tryz.f49' rfl (by decide) rfl) rfl ?_))))
    refine Zf (Zj rfl Tryz.k9 rfl rfl rfl (vs := [_]) rfl rfl rfl) rfl ?_
    refine Zq rfl rfl ?_
    refine Zw (caps := []) trivial rfl rfl Tryz.c28 rfl (FnP.mono (name_fn _ (by omega) u) ?_)
    rintro v u1 hle1 ⟨b1, rfl, _⟩
    refine Zf (Zbs rfl rfl) rfl ?_
    refine Zd (ρ' := [(1, _), (3, _), (4, _), (30, _)]) ⟨rfl, rfl, rfl, rfl, trivial⟩ ?_
    refine Zb ?_
    refine Zn rfl (fun hb7 => ?_) (fun hb7 => ?_)
    ·
     refine Zc (Za (ya rfl rfl (Zd (ρ' := [(2, _)]) ⟨rfl, trivial⟩ ?_)))
     refine Zb (Zv (Zh (Zr (Zh (Zh (Zr (Zh ?_)))))))
     refine Zav (.tmp rfl) ?_
     first
     | exact ⟨_, rfl, he⟩
     | exact ⟨_, rfl, fun h => absurd h (by decide)⟩
    ·
     refine Zs (Zb (Zc (Zc (Za ?_))))
     refine Zbc 10 40 (fun _ => True) (ρk := [(1, _), (3, _), (4, _)]) ⟨rfl, rfl, rfl, trivial⟩ ?_ fun mb9_9 hm9_9 => ?_
     ·
      refine Zf (Zi rfl Tryz.f49' rfl (by decide) rfl) rfl ?_
      refine Zf (Zj rfl Tryz.k9 rfl rfl rfl (vs := [_]) rfl rfl rfl) rfl ?_
      refine Zq rfl rfl ?_
      refine Zw (caps := []) trivial rfl rfl Tryz.c29 rfl (FnP.mono (line4_fn _ (by omega) u) ?_)
      rintro v u1 hle1 ⟨b2, rfl, _⟩
      refine Zf (Zbs rfl rfl) rfl ?_
      refine ym rfl rfl ?_
      refine Zad 35 rfl (fun hg9_4 => ?_) (fun hg9_4 => ?_)
      ·
       iterate 4 refine Zo rfl rfl rfl rfl ?_
       refine Zf (Zl rfl rfl rfl) rfl ?_
       exact Zx rfl ⟨rfl, rfl, rfl, trivial⟩ (trivial)
      ·
       refine Zk rfl rfl (Zf (Zi rfl Tryz.f49' rfl (by decide) rfl) rfl ?_)
       refine Zk rfl rfl (Zf (Zj rfl Tryz.k9 rfl rfl rfl (vs := [_]) rfl rfl rfl) rfl ?_)
       refine Zk rfl rfl (Zq rfl rfl ?_)
       refine Zw (caps := []) trivial rfl rfl Tryz.c30 rfl (FnP.mono (trimmed4_fn _ (by omega) u) ?_)
       rintro v u1 hle1 ⟨b3, rfl⟩
       refine Zk rfl rfl (Zf (Zbs rfl rfl) rfl ?_)
       refine Zf (Zm rfl rfl rfl) rfl ?_
       exact Zx rfl ⟨rfl, rfl, rfl, trivial⟩ (trivial)
     refine Zd (ρ' := [(1, _), (3, _), (4, _), (40, _)]) ⟨rfl, rfl, rfl, rfl, trivial⟩ ?_
     refine Zb ?_
     refine Zn rfl (fun hb9 => ?_) (fun hb9 => ?_)
     ·
      refine Zc (Za (ya rfl rfl (Zd (ρ' := [(2, _)]) ⟨rfl, trivial⟩ ?_)))
      refine Zb (Zv (Zh (Zr (Zh (Zh (Zr (Zh ?_)))))))
      refine Zav (.tmp rfl) ?_
      first
      | exact ⟨_, rfl, he⟩
      | exact ⟨_, rfl, fun h => absurd h (by decide)⟩
     ·
      refine Zs (Zb (Zc (Za (ya rfl rfl (Zd (ρ' := [(1, _), (3, _), (4, _), (5, _)]) ⟨rfl, rfl, rfl, rfl, trivial⟩ ?_)))))
      refine Zb (Zaa ?_)
      refine Zau (fun m ρ σ u' => ∃ j : Nat, j + m = i ∧ VLe u u' ∧ σ = [(1, (none, .box [.slice ad d.mts.length cap, vb])), (4, (none, .box [str d.mts[i].1, str d.mts[i].2]))] ∧ ρ = [(1, .p 1 0), (3, .v (.int .i64 i)), (4, .p 4 0), (5, .v (.int .i64 j))] ∧ (u = u')) (i) ?_ ?_
      ·
       refine ⟨[(1, _), (3, _), (4, _), (5, _)], [(1, _), (4, _)], ⟨rfl, rfl, rfl, rfl, trivial⟩, ⟨rfl, rfl, trivial⟩, 0, by omega, VLe.refl _, (by first | rfl | simp), (by first | rfl | (simp only [List.cons.injEq, Prod.mk.injEq, SV.v.injEq, Value.int.injEq, true_and, and_true]; omega) | simp), ?_⟩
       rfl
      ·
       rintro mj ρ σ u' ⟨j, hi12, hle12, rfl, rfl, rfl⟩
       refine Zc (Zc (Za (ym rfl rfl (ym rfl rfl (Zf (Zbh rfl rfl rfl) rfl ?_)))))
       refine Zd (ρ' := [(1, _), (3, _), (4, _), (5, _), (43, _)]) ⟨rfl, rfl, rfl, rfl, rfl, trivial⟩ ?_
       refine Zb ?_
       refine Zn rfl (fun hb12 => ?_) (fun hb12 => ?_)
       ·
        have hlt3 : j < i := by have := of_decide_eq_true hb12; omega
        have hlt2 : j < d.mts.length := by omega
        have hcc2 := cut_pairsC (List.getElem?_eq_getElem hlt2)
        refine Zs (Zb (Zc (Zaa (Zc ?_))))
        refine Zbu Tryz.mixed rfl [(1, _), (4, _)] ⟨rfl, rfl, trivial⟩ ?_
        refine ra_y (i := 0) rfl (by kernel_rfl) (by kernel_rfl) (by kernel_rfl) (Ze (Zg (Ze (Ze (Zg (Zg (Ze (Ze (Zg (Ze (Zam))))))))))) (Zi rfl Tryz.f25' rfl (by decide) rfl) rfl ?_
        refine ra_y (i := 1) rfl (by kernel_rfl) (by kernel_rfl) (by kernel_rfl) (Ze (Zg (Ze (Ze (Zg (Zg (Ze (Ze (Zg (Ze (Zam))))))))))) (Zj rfl Tryz.k22 rfl rfl rfl (vs := [_]) rfl rfl rfl) rfl ?_
        refine ra_y (i := 2) rfl (by kernel_rfl) (by kernel_rfl) (by kernel_rfl) (Ze (Zg (Ze (Ze (Zg (Zg (Ze (Ze (Zg (Ze (Zam))))))))))) (Zbj rfl rfl) rfl ?_
        refine ra_y (i := 3) rfl (by kernel_rfl) (by kernel_rfl) (by kernel_rfl) (Ze (Zg (Ze (Ze (Zg (Zg (Ze (Ze (Zg (Ze (Zam))))))))))) (Zai rfl Tryz.s22 rfl rfl (by assumption) (by first | rfl | omega) (by omega)) rfl ?_
        refine ra_y (i := 4) rfl (by kernel_rfl) (by kernel_rfl) (by kernel_rfl) (Ze (Zg (Ze (Ze (Zg (Zg (Ze (Ze (Zg (Ze (Zam))))))))))) (Zap rfl Tryz.f49' rfl (by decide) rfl) rfl ?_
        refine ra_y (i := 5) rfl (by kernel_rfl) (by kernel_rfl) (by kernel_rfl) (Ze (Zg (Ze (Ze (Zg (Zg (Ze (Ze (Zg (Ze (Zam))))))))))) (Zag rfl Tryz.k9 rfl (by assumption) (by omega) (by assumption) (vs := [_]) rfl rfl rfl rfl) rfl ?_
        refine ra_y (i := 6) rfl (by kernel_rfl) (by kernel_rfl) (by kernel_rfl) (Ze (Zg (Ze (Ze (Zg (Zg (Ze (Ze (Zg (Ze (Zam))))))))))) (Zi rfl Tryz.f49' rfl (by decide) rfl) rfl ?_
        refine ra_y (i := 7) rfl (by kernel_rfl) (by kernel_rfl) (by kernel_rfl) (Ze (Zg (Ze (Ze (Zg (Zg (Ze (Ze (Zg (Ze (Zam))))))))))) (Zj rfl Tryz.k9 rfl rfl rfl (vs := [_]) rfl rfl rfl) rfl ?_
        refine ra_y (i := 8) rfl (by kernel_rfl) (by kernel_rfl) (by kernel_rfl) (Ze (Zg (Ze (Ze (Zg (Zg (Ze (Ze (Zg (Ze (Zam))))))))))) (Zbg rfl rfl rfl) rfl ?_
        refine ra_end (by kernel_rfl) (ρ' := [(1, _), (3, _), (4, _), (5, _), (54, _)]) ⟨rfl, rfl, rfl, rfl, rfl, trivial⟩ ?_
        refine Zb ?_
        refine Zn rfl (fun hb14 => ?_) (fun hb14 => ?_)
        ·
         refine Zc (Za (ya rfl rfl (Zd (ρ' := [(2, _)]) ⟨rfl, trivial⟩ ?_)))
         refine Zb (Zv (Zr (Zh (Zh (Zr (Zr (Zh ?_)))))))
         refine Zh (Zr (Zh ?_))
         refine Zav (.tmp rfl) ?_
         first
         | exact ⟨_, rfl, he⟩
         | exact ⟨_, rfl, fun h => absurd h (by decide)⟩
        ·
         refine Zs (Zaf (Zb (Za (ym rfl rfl (Zf (Zas rfl rfl rfl (Zu (by omega))) rfl ?_)))))
         refine ya rfl rfl (Zd (ρ' := [(1, _), (3, _), (4, _), (5, _)]) ⟨rfl, rfl, rfl, rfl, trivial⟩ ?_)
         refine Zae ?_
         refine ⟨mj - 1, [(1, _), (3, _), (4, _), (5, _)], [(1, _), (4, _)], by omega, ⟨rfl, rfl, rfl, rfl, trivial⟩, ⟨rfl, rfl, trivial⟩, j + 1, by omega, hle12, (by first | rfl | simp), (by first | rfl | (simp only [List.cons.injEq, Prod.mk.injEq, SV.v.injEq, Value.int.injEq, true_and, and_true]; omega) | simp), ?_⟩
         rfl
       ·
        skip
        refine Zat ?_
        refine Zp (Zp ?_)
        refine Zah ?_
        refine Zaf (Zb (Za (ym rfl rfl (Zf (Zas rfl rfl rfl (Zu (by omega))) rfl ?_))))
        refine ya rfl rfl (Zd (ρ' := [(1, _), (3, _)]) ⟨rfl, rfl, trivial⟩ ?_)
        refine Zae ?_
        refine ⟨m - 1, [(1, _), (3, _)], [(1, _)], by omega, ⟨rfl, rfl, trivial⟩, ⟨rfl, trivial⟩, i + 1, by omega, hle4, (by first | rfl | simp), (by first | rfl | (simp only [List.cons.injEq, Prod.mk.injEq, SV.v.injEq, Value.int.injEq, true_and, and_true]; omega) | simp), ?_⟩
        rfl
   ·
    skip
    refine Zat ?_
    refine Zp (Zp ?_)
    refine Zah ?_
    refine Zb (Zc (Za (Zf (Zi rfl Tryz.f25' rfl (by decide) rfl) rfl ?_)))
    refine Zf (Zj rfl Tryz.k23 rfl rfl rfl (vs := [_]) rfl rfl rfl) rfl ?_
    refine Zq rfl rfl ?_
    refine Zw (caps := []) trivial rfl rfl Tryz.c31 rfl (FnP.mono (allBlocks_fn vb d.blocks u hbig hsm hb) ?_)
    rintro v u1 hle1 ⟨e, rfl, he⟩
    refine ya rfl rfl (Zd (ρ' := [(2, _)]) ⟨rfl, trivial⟩ ?_)
    refine Zb (Zv ?_)
    refine Zav (.tmp rfl) ?_
    first
    | exact ⟨_, rfl, he⟩
    | exact ⟨_, rfl, fun h => absurd h (by decide)⟩
set_option linter.unusedSimpArgs false
set_option linter.unusedVariables false
set_option maxRecDepth 4000
mutual
def quiet1 : Inl → Bool
 | .mk k t d ti a args cites kids => !silent (.mk k t d ti a args cites kids) && quiet kids
def quiet : List Inl → Bool
 | [] => true
 | x :: xs => quiet1 x && quiet xs
end
mutual
def roomI1 : Inl → Prop
 | .mk _ _ _ _ a _ _ kids => a.pairs.length < 32 ∧ roomI kids
def roomI : List Inl → Prop
 | [] => True
 | x :: xs => roomI1 x ∧ roomI xs
end
def prsOf : Inl → List (Bs × Bs)
 | .mk _ _ _ _ a _ _ _ => a.pairs
mutual
theorem room_of1 : ∀ x : Inl, (∀ y ∈ deep1 x, (prsOf y).length < 32) → roomI1 x
 | .mk k t d ti a args cites kids, h => by
  unfold roomI1
  exact ⟨h (.mk k t d ti a args cites kids) (by simp [deep1]), room_of kids fun y hy => h y (by rw [deep1]; exact List.mem_cons_of_mem _ hy)⟩
theorem room_of : ∀ xs : List Inl, (∀ y ∈ deep xs, (prsOf y).length < 32) → roomI xs
 | [], _ => by unfold roomI; trivial
 | x :: xs, h => by
  unfold roomI
  exact ⟨room_of1 x fun y hy => h y (by rw [deep]; exact List.mem_append_left _ hy), room_of xs fun y hy => h y (by rw [deep]; exact List.mem_append_right _ hy)⟩
end
mutual
theorem quiet_deep1 : ∀ x : Inl, quiet1 x = true → ∀ y ∈ deep1 x, silent y = false
 | .mk k t d ti a args cites kids, h, y, hy => by
  simp only [quiet1, Bool.and_eq_true, Bool.not_eq_true'] at h
  rw [deep1] at hy
  rcases List.mem_cons.1 hy with rfl | hy
  ·
   exact h.1
  ·
   exact quiet_deep kids h.2 y hy
theorem quiet_deep : ∀ xs : List Inl, quiet xs = true → ∀ y ∈ deep xs, silent y = false
 | [], _, y, hy => by simp [deep] at hy
 | x :: xs, h, y, hy => by
  simp only [quiet, Bool.and_eq_true] at h
  rw [deep] at hy
  rcases List.mem_append.1 hy with hy | hy
  ·
   exact quiet_deep1 x h.1 y hy
  ·
   exact quiet_deep xs h.2 y hy
end
theorem quiet_append : ∀ (xs ys : List Inl), quiet (xs ++ ys) = (quiet xs && quiet ys)
 | [], ys => by simp [quiet]
 | x :: xs, ys => by
  rw [List.cons_append]
  simp only [quiet, quiet_append xs ys, Bool.and_assoc]
theorem quiet_tI (d : Bs) : quiet [tI d] = true := by simp [quiet, quiet1, tI, silent]
theorem decoA_full {a : DAttr} (h : a.pairs.length < 32) : (decoA a).2 = true := by
 unfold decoA
 split
 ·
  rfl
 ·
  rfl
mutual
theorem fix_quiet1 : ∀ x : Inl, roomI1 x → quiet1 (fixI1 x).1 = true
 | .mk k t d ti a args cites kids, hr => by
  unfold roomI1 at hr
  have ih := fix_quiet kids hr.2
  obtain ⟨_, hb⟩ := fix_grow kids
  simp only [fixI1]
  generalize hadd : (mute (Inl.mk k t d ti a args cites kids) && !blank d) = add
  have hkids : quiet (if add = true then (fixI kids).1 ++ [tI d] else (fixI kids).1) = true := by
   split
   ·
    rw [quiet_append, ih, quiet_tI]; rfl
   ·
    exact ih
  have hblank : blank (plain (if add = true then (fixI kids).1 ++ [tI d] else (fixI kids).1)) = true → blank (plain kids) = true := by
   intro h
   split at h
   ·
    rw [plain_append, plain_tI, blank_append, Bool.and_eq_true] at h
    exact hb h.1
   ·
    exact hb h
  simp only [quiet1, hkids, Bool.and_true, Bool.not_eq_true']
  by_cases hs : silent (Inl.mk k t d ti a args cites kids) = true
  ·
   rw [if_pos hs]
   simp [silent, decoA_room (decoA_full hr.1)]
  ·
   rw [if_neg hs]
   cases hq : silent (Inl.mk k t d ti a args cites (if add = true then (fixI kids).1 ++ [tI d] else (fixI kids).1)) with
   | false => rfl
   | true =>
    refine absurd ?_ hs
    simp only [silent, Bool.and_eq_true] at hq ⊢
    exact ⟨⟨hq.1.1, hblank hq.1.2⟩, hq.2⟩
theorem fix_quiet : ∀ xs : List Inl, roomI xs → quiet (fixI xs).1 = true
 | [], _ => rfl
 | x :: xs, hr => by
  unfold roomI at hr
  simp only [fixI, quiet, fix_quiet1 x hr.1, fix_quiet xs hr.2, Bool.and_self]
end
theorem quiet_setT {x : Inl} {t : Bs} (hk : kindI x = 1) (h : quiet1 x = true) : quiet1 (setT x t) = true := by
 obtain ⟨k, t0, d, ti, a, args, cites, kids⟩ := x
 simp only [kindI] at hk
 subst hk
 simp only [quiet1, setT, silent] at h ⊢
 simpa using h
theorem addT_quiet {p : Option Inl} {x : Inl} (hk : ∀ q, p = some q → kindI q = 1) (hp : ∀ q, p = some q → quiet1 q = true) (hx : quiet1 x = true) : ∀ q, addT p x = some q → quiet1 q = true := by
 intro q hq
 unfold addT at hq
 split at hq
 ·
  split at hq
  ·
   cases hq
  ·
   cases hq; exact hx
 ·
  rename_i r
  cases hq
  exact quiet_setT (hk r rfl) (hp r rfl)
mutual
theorem mg1_quiet : ∀ x : Inl, quiet1 x = true → quiet1 (mg1 x) = true
 | .mk k t d ti a args cites kids, h => by
  have hpl := mg_plain kids none (fun q h => by cases h)
  simp only [quiet1, Bool.and_eq_true] at h
  have ih := mg_quiet kids none (fun q h => by cases h) (fun q h => by cases h) h.2
  have e : plain (mg none kids) = plain kids := by rw [hpl]; rfl
  simp only [mg1, quiet1, ih, Bool.and_true, silent, e]
  simpa [silent] using h.1
theorem mg_quiet : ∀ (xs : List Inl) (p : Option Inl), (∀ q, p = some q → kindI q = 1) → (∀ q, p = some q → quiet1 q = true) → quiet xs = true → quiet (mg p xs) = true
 | [], p, _, hp, _ => by
  cases p with
  | none => rfl
  | some q => simp [mg, quiet, hp q rfl]
 | x :: xs, p, hk, hp, h => by
  simp only [quiet, Bool.and_eq_true] at h
  have h1 := mg1_quiet x h.1
  rw [mg]
  split
  ·
   rename_i hk1
   exact mg_quiet xs _ (addT_kind hk (by rw [kind_mg1]; exact hk1)) (addT_quiet hk hp h1) h.2
  ·
   rw [quiet_append, quiet, h1, mg_quiet xs none (fun q h => by cases h) (fun q h => by cases h) h.2]
   cases p with
   | none => rfl
   | some q => simp [quiet, hp q rfl]
end
theorem ownR_quiet {k : Int} {line : List Inl} (h : roomI line) : quiet (ownR k line).1 = true := by
 unfold ownR
 split
 ·
  simp only [quiet_append, fix_quiet line h, quiet_tI, Bool.and_self]
 ·
  exact fix_quiet line h
theorem lineR_quiet {k : Int} {line : List Inl} (h : roomI line) : quiet (lineR k line) = true := by
 unfold lineR
 split
 ·
  exact mg_quiet _ none (fun q h => by cases h) (fun q h => by cases h) (ownR_quiet h)
 ·
  exact ownR_quiet h
theorem quietR : ∀ (n : Nat) (bs : List Blk) (bf : Int), szB bs ≤ n → (∀ b ∈ listB bs, roomI (lineOf b)) → ∀ b ∈ listB (fixB bf bs).1, quiet (lineOf b) = true := by
 intro n
 induction n with
 | zero =>
  intro bs bf hn _ b hb
  cases bs with
  | nil => simp [fixB, listB] at hb
  | cons x xs => cases x; simp [szB, szb] at hn
 | succ n ih =>
  intro bs bf hn hr b hb
  cases bs with
  | nil => simp [fixB, listB] at hb
  | cons x xs =>
   obtain ⟨k, lv, inf, t, d, ti, a, line, kids⟩ := x
   simp only [szB, szb] at hn
   simp only [fixB, fixb, listB, listb, List.cons_append] at hb
   have hl := hr (.mk k lv inf t d ti a line kids) (by simp [listB, listb])
   rcases List.mem_cons.1 hb with rfl | hb
   ·
    exact lineR_quiet hl
   ·
    rcases List.mem_append.1 hb with hb | hb
    ·
     exact ih kids _ (by omega) (fun b hb => hr b (by rw [listB, listb]; exact List.mem_append_left _ (List.mem_cons_of_mem _ hb))) b hb
    ·
     exact ih xs _ (by omega) (fun b hb => hr b (by rw [listB]; exact List.mem_append_right _ hb)) b hb
mutual
theorem noskip_b : ∀ (x : Blk) (bf : Int) (tl : List Blk), skipsL bf (headsL (listb (fixb bf x).1) ++ tl) = skipsL (fixb bf x).2 tl
 | .mk k lv inf t d ti a line kids, bf, tl => by
  have hk := noskip_B kids (befR k lv bf) tl
  have hh : headsL (listb (fixb bf (.mk k lv inf t d ti a line kids)).1) = (if k = 2 then [(fixb bf (.mk k lv inf t d ti a line kids)).1] else []) ++ headsL (listB (fixB (befR k lv bf) kids).1) := by
   simp only [headsL, fixb, listb, List.filter_cons, kindB]
   by_cases e : k = 2 <;> simp [e]
  rw [hh]
  by_cases e : k = 2
  ·
   rw [if_pos e, List.cons_append, List.nil_append, List.cons_append, skipsL]
   have e1 : levB (fixb bf (.mk k lv inf t d ti a line kids)).1 = befR k lv bf := by
    simp only [fixb, levB, levR, befR, if_pos e]
   have e2 : befR k lv bf ≤ bf + 1 := by unfold befR; rw [if_pos e]; omega
   rw [e1, if_neg (by omega), List.nil_append, hk]
   simp only [fixb]
  ·
   rw [if_neg e, List.nil_append]
   have e2 : befR k lv bf = bf := by unfold befR; rw [if_neg e]
   rw [e2] at hk ⊢
   rw [hk]
   simp only [fixb, e2]
theorem noskip_B : ∀ (xs : List Blk) (bf : Int) (tl : List Blk), skipsL bf (headsL (listB (fixB bf xs).1) ++ tl) = skipsL (fixB bf xs).2 tl
 | [], bf, tl => by simp [fixB, listB, headsL]
 | x :: xs, bf, tl => by
  have e : headsL (listB (fixB bf (x :: xs)).1) ++ tl = headsL (listb (fixb bf x).1) ++ (headsL (listB (fixB (fixb bf x).2 xs).1) ++ tl) := by simp [headsL, listB, fixB]
  rw [e, noskip_b x bf, noskip_B xs]
  simp only [fixB]
end
theorem left_meta {m : List (Bs × Bs)} {bs : List Blk} (h : m.length < 63) : hasM langS (repM m bs) = true ∧ hasM titS (repM m bs) = true := by
 have hne : langS ≠ titS := by decide
 have h1 := fill_then (k := langS) (v := enS) (by decide) m
 have h2 := fill_then (k := titS) (titleR_ne bs 0) (fillM langS enS m)
 have hl : (fillM langS enS m).length ≤ m.length + 1 := by
  unfold fillM
  repeat' split
  ·
   omega
  ·
   rw [setP_len]; omega
  ·
   simp
  ·
   omega
 have h1 : hasM langS (fillM langS enS m) = true := by
  rcases h1 with h1 | ⟨-, h3⟩
  ·
   exact h1
  ·
   omega
 have h2 : hasM titS (fillM titS (titleR (fixB 0 bs).1) (fillM langS enS m)) = true := by
  rcases h2 with h2 | ⟨-, h3⟩
  ·
   exact h2
  ·
   omega
 refine ⟨?_, h2⟩
 unfold hasM at h1 ⊢
 have e : getP langS (repM m bs) = getP langS (fillM langS enS m) := getP_fill_ne hne _
 rw [e]
 exact h1
theorem left_text {m : List (Bs × Bs)} {bs : List Blk} (h : m.length < 63) (hr : ∀ x ∈ inls (listB bs), (prsOf x).length < 32) : ∀ i, textF (repM m bs) (repB bs) i = [] ∨ i = 2 ∨ i = 3 ∨ i = 7 := by
 have hq : ∀ b ∈ listB (repB bs), quiet (lineOf b) = true := quietR _ bs 0 (Nat.le_refl _) fun b hb => room_of _ fun y hy => hr y (by unfold inls; exact List.mem_flatMap.2 ⟨b, hb, hy⟩)
 obtain ⟨m1, m2⟩ := left_meta (bs := bs) h
 intro i
 match i with
 | 0 =>
  left
  have : (inls (listB (repB bs))).filter silent = [] := by
   rw [List.filter_eq_nil_iff]
   intro x hx
   unfold inls at hx
   obtain ⟨b, hb, hy⟩ := List.mem_flatMap.1 hx
   rw [quiet_deep _ (hq b hb) x hy]
   simp
  show foundL silent targetX _ = []
  unfold foundL
  rw [this]
  rfl
 | 1 =>
  left
  show skipsL 0 (headsL (listB (repB bs))) = []
  have := noskip_B bs 0 []
  rw [List.append_nil] at this
  exact this
 | 2 => right; left; rfl
 | 3 => right; right; left; rfl
 | 4 =>
  left
  show emptyL (headsL (listB (repB bs))) = []
  unfold emptyL
  rw [List.map_eq_nil_iff, List.filter_eq_nil_iff]
  intro x hx
  have := headsR bs 0 x hx
  simpa using this
 | 5 => left; show (if hasM langS (repM m bs) = true then [] else [langS]) = []; rw [m1]; rfl
 | 6 => left; show (if hasM titS (repM m bs) = true then [] else [titS]) = []; rw [m2]; rfl
 | 7 => right; right; right; rfl
 | n + 8 => left; rfl
theorem faultsTo_kind {m : List (Bs × Bs)} {bs : List Blk} : ∀ {n : Nat} {p : Bs × Bs}, p ∈ faultsTo m bs n → ∃ i, p.1 = kindsF.getD i [] ∧ textF m bs i ≠ []
 | 0, p, h => by simp [faultsTo] at h
 | n + 1, p, h => by
  rw [faultsTo] at h
  rcases List.mem_append.1 h with h | h
  ·
   exact faultsTo_kind h
  ·
   obtain ⟨t, ht, rfl⟩ := List.mem_map.1 h
   exact ⟨n, rfl, fun e => by rw [e] at ht; cases ht⟩
theorem left_kind {m : List (Bs × Bs)} {bs : List Blk} (h : m.length < 63) (hr : ∀ x ∈ inls (listB bs), (prsOf x).length < 32) {p : Bs × Bs} (hp : p ∈ faultsL (repM m bs) (repB bs)) : p.1 = tblS ∨ p.1 = vagS ∨ p.1 = lnkS := by
 obtain ⟨i, h1, h2⟩ := faultsTo_kind hp
 rcases left_text h hr i with h3 | rfl | rfl | rfl
 ·
  exact absurd h3 h2
 ·
  exact .inl h1
 ·
  exact .inr (.inr h1)
 ·
  exact .inr (.inl h1)
theorem cut_fltC {xs : List (Bs × Bs)} {i : Nat} {x : Bs × Bs} (h : xs[i]? = some x) : cut (fltC xs) (i * 3) 3 = [str x.1, str [], str x.2] := cut_flat (f := fun x : Bs × Bs => [str x.1, str [], str x.2]) (fun _ => rfl) h
set_option linter.unusedSimpArgs false
set_option linter.unusedVariables false
set_option maxRecDepth 4000
set_option maxHeartbeats 4000000 in
theorem accLeft_fn (d : DDoc) (vm vb : Value) (u : View) (hT : TabU u) (hm : PrS u vm d.mts) (hbk : BlkS u vb d.blocks) (hok : DocOk d) :
  FnP Tryz.prog 4 [.agg #[vm, vb]] u fun r _ => r = .bool true := by
 have hm0 := hm
 have hb0 := hbk
 obtain ⟨adm, capm, rfl, hm1⟩ := hm
 obtain ⟨bcs, ⟨adb, capb, rfl, hb1⟩, hb2⟩ := hbk
 obtain ⟨ps, bs⟩ := d
 simp only at hm0 hb0 hm1 hb1 hb2
 refine FnP.intro [.tmp 2] Tryz.func4 rfl rfl rfl ?_
 intro w0 D hw0
 refine Zc (Za (Zq rfl rfl ?_))
 refine Zbl trivial rfl (cs := [_, _]) rfl rfl rfl rfl ?_
 refine ya rfl rfl (Zd (ρ' := [(1, _)]) ⟨rfl, trivial⟩ ?_)
 refine Zb (Zc (Zc (Za (Zf (Zj rfl Tryz.k25 rfl rfl rfl (vs := [_, _]) rfl rfl rfl) rfl ?_))))
 refine Zq rfl rfl ?_
 refine Zw (caps := []) trivial rfl rfl Tryz.c5 rfl (FnP.mono (smallX_fn ⟨ps, bs⟩ _ _ u hm0 hb0 hok) ?_)
 rintro v u1 hle1 rfl
 refine Zf (Zbs rfl rfl) rfl ?_
 refine ym rfl rfl ?_
 refine Zad 10 rfl (fun hg1_3 => ?_) (fun hg1_3 => ?_)
 ·
  iterate 3 refine Zo rfl rfl rfl rfl ?_
  refine Zf (Zl rfl rfl rfl) rfl (ym rfl rfl ?_)
  iterate 4 refine Zo rfl rfl rfl rfl ?_
  refine Zf (Zl rfl rfl rfl) rfl (Zd (ρ' := [(1, _), (20, _)]) ⟨rfl, rfl, trivial⟩ ?_)
  refine Zb ?_
  refine Zce rfl (rfl) ?_
  refine Zc (Za (Zq rfl rfl ?_))
  refine Zw (caps := []) trivial rfl rfl Tryz.c6 rfl (FnP.mono (lawawake_fn u hT) ?_)
  rintro v u1 hle1 rfl
  refine ya rfl rfl (Zd (ρ' := [(2, _)]) ⟨rfl, trivial⟩ ?_)
  refine Zb (Zv (Zh ?_))
  refine Zav (.tmp rfl) ?_
  first
  | rfl
  | (exfalso
     rcases hk with e | e | e
     ·
      exact of_decide_eq_true hg13_6 e
     ·
      exact of_decide_eq_true hg13_14 e
     ·
      first | exact of_decide_eq_true hb13 e | exact of_decide_eq_true hb14 e)
 ·
  refine Zk rfl rfl (Zf (Zj rfl Tryz.k25 rfl rfl rfl (vs := [_, _]) rfl rfl rfl) rfl ?_)
  have hs : smallB ⟨ps, bs⟩ = true := by simpa using hg1_3
  have hs0 := hs
  unfold smallB at hs0
  have hs0 := (of_decide_eq_true hs0).2.1
  obtain ⟨hs1, hs2, hs3⟩ := small_st hs
  simp only at hs0 hs1 hs2 hs3
  obtain ⟨w1, w2, w3, w4, w5⟩ := rep_sm hs3 hs2
  have hrl := repM_len ps bs
  have hms : ∀ p ∈ ps, p.1.length + p.2.length ≤ 1000000 := fun p hp => Nat.le_trans (hs0 p hp) (by omega)
  have hll := inls_len (listB bs)
  have hls := szL_listB bs
  refine Zk rfl rfl (Zq rfl rfl ?_)
  refine Zw (caps := []) trivial rfl rfl Tryz.c12 rfl (FnP.mono (docCheck_fn ⟨ps, bs⟩ _ _ u hm0 hb0 (by simp only; omega) hms (by simp only; omega) w1) ?_)
  rintro v u1 hle1 ⟨e, rfl, he⟩
  refine Zk rfl rfl (Zf (Zcc rfl rfl rfl) rfl ?_)
  refine Zf (Zm rfl rfl rfl) rfl (ym rfl rfl ?_)
  refine Zad 15 rfl (fun hg1_8 => ?_) (fun hg1_8 => ?_)
  ·
   iterate 4 refine Zo rfl rfl rfl rfl ?_
   refine Zf (Zl rfl rfl rfl) rfl (Zd (ρ' := [(1, _), (20, _)]) ⟨rfl, rfl, trivial⟩ ?_)
   refine Zb ?_
   refine Zce rfl (rfl) ?_
   refine Zc (Za (Zq rfl rfl ?_))
   refine Zw (caps := []) trivial rfl rfl Tryz.c6 rfl (FnP.mono (lawawake_fn u hT) ?_)
   rintro v u1 hle1 rfl
   refine ya rfl rfl (Zd (ρ' := [(2, _)]) ⟨rfl, trivial⟩ ?_)
   refine Zb (Zv (Zh ?_))
   refine Zav (.tmp rfl) ?_
   first
   | rfl
   | (exfalso
      rcases hk with e | e | e
      ·
       exact of_decide_eq_true hg13_6 e
      ·
       exact of_decide_eq_true hg13_14 e
      ·
       first | exact of_decide_eq_true hb13 e | exact of_decide_eq_true hb14 e)
  ·
   refine Zk rfl rfl (Zf (Zi rfl Tryz.f25' rfl (by decide) rfl) rfl ?_)
   refine Zk rfl rfl (Zf (Zj rfl Tryz.k22 rfl rfl rfl (vs := [_]) rfl rfl rfl) rfl ?_)
   refine Zk rfl rfl (Zf (Zal rfl rfl Tryz.s22 rfl) rfl ?_)
   refine Zk rfl rfl (Zf (Zbw rfl rfl rfl) rfl ?_)
   refine Zf (Zm rfl rfl rfl) rfl (Zd (ρ' := [(1, _), (20, _)]) ⟨rfl, rfl, trivial⟩ ?_)
   refine Zb ?_
   refine Zn rfl (fun hb2 => ?_) (fun hb2 => ?_)
   ·
    refine Zc (Za (Zq rfl rfl ?_))
    refine Zw (caps := []) trivial rfl rfl Tryz.c6 rfl (FnP.mono (lawawake_fn u hT) ?_)
    rintro v u1 hle1 rfl
    refine ya rfl rfl (Zd (ρ' := [(2, _)]) ⟨rfl, trivial⟩ ?_)
    refine Zb (Zv (Zh ?_))
    refine Zav (.tmp rfl) ?_
    first
    | rfl
    | (exfalso
       rcases hk with e | e | e
       ·
        exact of_decide_eq_true hg13_6 e
       ·
        exact of_decide_eq_true hg13_14 e
       ·
        first | exact of_decide_eq_true hb13 e | exact of_decide_eq_true hb14 e)
   ·
    refine Zs (Zb (Zc (Za (Zf (Zi rfl Tryz.f25' rfl (by decide) rfl) rfl ?_))))
    refine Zf (Zj rfl Tryz.k23 rfl rfl rfl (vs := [_]) rfl rfl rfl) rfl ?_
    refine Zq rfl rfl ?_
    refine Zbb (caps := []) trivial rfl rfl Tryz.c13 rfl (FnP.mono (inlines_fn _ bs u (by omega) hb0) ?_)
    rintro v uX hle0 ⟨xcs, ⟨axs, cxs, rfl, hx1⟩, hx2⟩ hleX
    have hlm : ps.length < 63 := by (first | (have h9 : ¬ ((ps.length : Int) ≥ 63) := of_decide_eq_false hb2; omega) | (have h9 : ¬ ((ps.length : Int) ≥ 63) := of_decide_eq_false hb1; omega))
    refine ya rfl rfl (Zd (ρ' := [(1, _), (3, _)]) ⟨rfl, rfl, trivial⟩ ?_)
    refine Zb (Zc (Zc (Za (ya rfl rfl (Zd (ρ' := [(1, _), (3, _), (4, _)]) ⟨rfl, rfl, rfl, trivial⟩ ?_)))))
    refine Zb (Zaa ?_)
    refine Zau (fun m ρ σ u' => ∃ i : Nat, i + m = (inls (listB bs)).length ∧ VLe uX u' ∧ σ = [(1, (none, .box [.slice adm ps.length capm, .slice adb bs.length capb]))] ∧ ρ = [(1, .p 1 0), (3, .v (.slice axs (inls (listB bs)).length cxs)), (4, .v (.int .i64 i))] ∧ (uX = u' ∧ ∀ x ∈ (inls (listB bs)).take i, (prsOf x).length < 32)) ((inls (listB bs)).length) ?_ ?_
    ·
     refine ⟨[(1, _), (3, _), (4, _)], [(1, _)], ⟨rfl, rfl, rfl, trivial⟩, ⟨rfl, trivial⟩, 0, by omega, VLe.refl _, (by first | rfl | simp), (by first | rfl | (simp only [List.cons.injEq, Prod.mk.injEq, SV.v.injEq, Value.int.injEq, true_and, and_true]; omega) | simp), ?_⟩
     exact ⟨rfl, fun x hx => by simp at hx⟩
    ·
     rintro m ρ σ u' ⟨i, hi5, hle5, rfl, rfl, ⟨rfl, hinv⟩⟩
     refine Zc (Zc (Za (ym rfl rfl (ym rfl rfl (Zf (Zal rfl rfl Tryz.s37 rfl) rfl ?_)))))
     refine Zf (Zbh rfl rfl rfl) rfl ?_
     refine Zd (ρ' := [(1, _), (3, _), (4, _), (28, _)]) ⟨rfl, rfl, rfl, rfl, trivial⟩ ?_
     refine Zb ?_
     refine Zn rfl (fun hb5 => ?_) (fun hb5 => ?_)
     ·
      have hlt : i < (inls (listB bs)).length := by have := of_decide_eq_true hb5; omega
      obtain ⟨k, t, d, ti, a, args, cites, kids, vc, vp, va, vt, vk, hg, hcut1, s1, s2, s3, s4, s5, hok1⟩ := hx2.at hlt
      have oneAll := (hx2.get i _ hg).one
      rw [hcut1] at oneAll
      obtain ⟨adp, capp, rfl, h2⟩ := s2
      refine Zs (Zb (Zc (Zaa (Zc (Za (ym rfl rfl (ym rfl rfl (Zf (Zai rfl Tryz.s37 rfl rfl (by assumption) (by first | rfl | omega) (by omega)) rfl ?_))))))))
      refine Zf (Zap rfl Tryz.f45' rfl (by decide) rfl) rfl ?_
      refine Zf (Zap rfl Tryz.f36' rfl (by decide) rfl) rfl ?_
      refine Zf (Zag rfl Tryz.k22 rfl (by assumption) (by omega) (by assumption) (vs := [_]) rfl rfl rfl rfl) rfl ?_
      refine Zf (Zal rfl rfl Tryz.s22 rfl) rfl ?_
      refine Zf (Zbw rfl rfl rfl) rfl ?_
      refine Zd (ρ' := [(1, _), (3, _), (4, _), (38, _)]) ⟨rfl, rfl, rfl, rfl, trivial⟩ ?_
      refine Zb ?_
      refine Zn rfl (fun hb7 => ?_) (fun hb7 => ?_)
      ·
       refine Zc (Za (Zq rfl rfl ?_))
       refine Zw (caps := []) trivial rfl rfl Tryz.c6 rfl (FnP.mono (lawawake_fn uX (hT.mono hleX)) ?_)
       rintro v u1 hle1 rfl
       refine ya rfl rfl (Zd (ρ' := [(2, _)]) ⟨rfl, trivial⟩ ?_)
       refine Zb (Zv (Zr (Zh (Zh (Zr (Zh ?_))))))
       refine Zav (.tmp rfl) ?_
       first
       | rfl
       | (exfalso
          rcases hk with e | e | e
          ·
           exact of_decide_eq_true hg13_6 e
          ·
           exact of_decide_eq_true hg13_14 e
          ·
           first | exact of_decide_eq_true hb13 e | exact of_decide_eq_true hb14 e)
      ·
       refine Zs (Zaf (Zb (Za (ym rfl rfl (Zf (Zas rfl rfl rfl (Zu (by omega))) rfl ?_)))))
       refine ya rfl rfl (Zd (ρ' := [(1, _), (3, _), (4, _)]) ⟨rfl, rfl, rfl, trivial⟩ ?_)
       refine Zae ?_
       refine ⟨m - 1, [(1, _), (3, _), (4, _)], [(1, _)], by omega, ⟨rfl, rfl, rfl, trivial⟩, ⟨rfl, trivial⟩, i + 1, by omega, hle5, (by first | rfl | simp), (by first | rfl | (simp only [List.cons.injEq, Prod.mk.injEq, SV.v.injEq, Value.int.injEq, true_and, and_true]; omega) | simp), ?_⟩
       have h7 := of_decide_eq_false hb7
       refine ⟨rfl, fun x hx => ?_⟩
       rcases mem_take_succ hg hx with hx | rfl
       ·
        exact hinv x hx
       ·
        show a.pairs.length < 32
        omega
     ·
      have hge := of_decide_eq_false hb5
      rw [List.take_of_length_le (by omega)] at hinv
      refine Zat ?_
      refine Zp (Zp ?_)
      refine Zah ?_
      refine Zb (Zc (Za (Zf (Zj rfl Tryz.k25 rfl rfl rfl (vs := [_, _]) rfl rfl rfl) rfl ?_)))
      refine Zq rfl rfl ?_
      refine Zbb (caps := []) trivial rfl rfl Tryz.c7 rfl (FnP.mono (repair_fn _ _ ps bs uX (by omega) (by omega) w1 w2 (by omega) w3 (hm0.mono hleX) (hb0.mono hleX)) ?_)
      rintro v uY hle0 ⟨_, _, rfl, hmY, hbY⟩ hleY
      refine Zq rfl rfl ?_
      refine Zbb (caps := []) trivial rfl rfl Tryz.c9 rfl (FnP.mono (check_fn _ _ (repM ps bs) (repB bs) uY ((hT.mono hleX).mono hleY) (by omega) w3 (by omega) hmY hbY) ?_)
      rintro v uZ hle0 ⟨adF, capF, rfl, hF⟩ hleZ
      have hFl := faultsTo_len (repM ps bs) (repB bs) (by omega) 8
      generalize hfl : faultsL (repM ps bs) (repB bs) = fl at hF ⊢
      have hfl2 : fl.length ≤ 8000 := by rw [← hfl]; exact hFl
      refine ya rfl rfl (Zd (ρ' := [(5, _)]) ⟨rfl, trivial⟩ ?_)
      refine Zb (Zc (Zc (Za (ya rfl rfl (Zd (ρ' := [(5, _), (6, _)]) ⟨rfl, rfl, trivial⟩ ?_)))))
      refine Zb (Zaa ?_)
      refine Zau (fun m ρ σ u' => ∃ j : Nat, j + m = fl.length ∧ VLe uZ u' ∧ σ = [] ∧ ρ = [(5, .v (.slice adF fl.length capF)), (6, .v (.int .i64 j))] ∧ (uZ = u')) (fl.length) ?_ ?_
      ·
       refine ⟨[(5, _), (6, _)], [], ⟨rfl, rfl, trivial⟩, trivial, 0, by omega, VLe.refl _, (by first | rfl | simp), (by first | rfl | (simp only [List.cons.injEq, Prod.mk.injEq, SV.v.injEq, Value.int.injEq, true_and, and_true]; omega) | simp), ?_⟩
       rfl
      ·
       rintro mj ρ σ u' ⟨j, hi11, hle11, rfl, rfl, rfl⟩
       refine Zc (Zc (Za (ym rfl rfl (ym rfl rfl (Zf (Zal rfl rfl Tryz.s30 rfl) rfl ?_)))))
       refine Zf (Zbh rfl rfl rfl) rfl ?_
       refine Zd (ρ' := [(5, _), (6, _), (46, _)]) ⟨rfl, rfl, rfl, trivial⟩ ?_
       refine Zb ?_
       refine Zn rfl (fun hb11 => ?_) (fun hb11 => ?_)
       ·
        have hlt2 : j < fl.length := by have := of_decide_eq_true hb11; omega
        have hg2 := List.getElem?_eq_getElem hlt2
        have hcc := cut_fltC hg2
        have hk : (fl[j]).1 = tblS ∨ (fl[j]).1 = vagS ∨ (fl[j]).1 = lnkS := left_kind hlm hinv (p := fl[j]) (by rw [hfl]; exact List.getElem_mem hlt2)
        refine Zs (Zb (Zc (Zaa (Zc (Za (ym rfl rfl (ym rfl rfl (Zf (Zai rfl Tryz.s30 rfl rfl (by assumption) (by first | rfl | omega) (by omega)) rfl ?_))))))))
        refine Zf (Zap rfl Tryz.f47' rfl (by decide) rfl) rfl ?_
        refine Zf (Zag rfl Tryz.k9 rfl (by assumption) (by omega) (by assumption) (vs := [_]) rfl rfl rfl rfl) rfl ?_
        refine Zf (Zbk rfl rfl rfl) rfl ?_
        refine ym rfl rfl ?_
        refine Zad 55 rfl (fun hg13_6 => ?_) (fun hg13_6 => ?_)
        ·
         refine Zk rfl rfl (ym rfl rfl (Zk rfl rfl (ym rfl rfl (Zk rfl rfl (Zf (Zai rfl Tryz.s30 rfl rfl (by assumption) (by first | rfl | omega) (by omega)) rfl ?_)))))
         refine Zk rfl rfl (Zf (Zap rfl Tryz.f47' rfl (by decide) rfl) rfl ?_)
         refine Zk rfl rfl (Zf (Zag rfl Tryz.k9 rfl (by assumption) (by omega) (by assumption) (vs := [_]) rfl rfl rfl rfl) rfl ?_)
         refine Zk rfl rfl (Zf (Zbk rfl rfl rfl) rfl ?_)
         refine Zf (Zl rfl rfl rfl) rfl (ym rfl rfl ?_)
         refine Zad 63 rfl (fun hg13_14 => ?_) (fun hg13_14 => ?_)
         ·
          refine Zk rfl rfl (ym rfl rfl (Zk rfl rfl (ym rfl rfl (Zk rfl rfl (Zf (Zai rfl Tryz.s30 rfl rfl (by assumption) (by first | rfl | omega) (by omega)) rfl ?_)))))
          refine Zk rfl rfl (Zf (Zap rfl Tryz.f47' rfl (by decide) rfl) rfl ?_)
          refine Zk rfl rfl (Zf (Zag rfl Tryz.k9 rfl (by assumption) (by omega) (by assumption) (vs := [_]) rfl rfl rfl rfl) rfl ?_)
          refine Zk rfl rfl (Zf (Zbk rfl rfl rfl) rfl ?_)
          refine Zf (Zl rfl rfl rfl) rfl (Zd (ρ' := [(5, _), (6, _), (70, _)]) ⟨rfl, rfl, rfl, trivial⟩ ?_)
          refine Zb ?_
          refine Zn rfl (fun hb13 => ?_) (fun hb13 => ?_)
          ·
           refine Zc (Za (ya rfl rfl (Zd (ρ' := [(2, _)]) ⟨rfl, trivial⟩ ?_)))
           refine Zb (Zv (Zr (Zh (Zh (Zr (Zh ?_))))))
           refine Zav (.tmp rfl) ?_
           first
           | rfl
           | (exfalso
              rcases hk with e | e | e
              ·
               exact of_decide_eq_true hg13_6 e
              ·
               exact of_decide_eq_true hg13_14 e
              ·
               first | exact of_decide_eq_true hb13 e | exact of_decide_eq_true hb14 e)
          ·
           refine Zs (Zaf (Zb (Za (ym rfl rfl (Zf (Zas rfl rfl rfl (Zu (by omega))) rfl ?_)))))
           refine ya rfl rfl (Zd (ρ' := [(5, _), (6, _)]) ⟨rfl, rfl, trivial⟩ ?_)
           refine Zae ?_
           refine ⟨mj - 1, [(5, _), (6, _)], [], by omega, ⟨rfl, rfl, trivial⟩, trivial, j + 1, by omega, hle11, (by first | rfl | simp), (by first | rfl | (simp only [List.cons.injEq, Prod.mk.injEq, SV.v.injEq, Value.int.injEq, true_and, and_true]; omega) | simp), ?_⟩
           rfl
         ·
          iterate 6 refine Zo rfl rfl rfl rfl ?_
          refine Zf (Zm rfl rfl rfl) rfl (Zd (ρ' := [(5, _), (6, _), (70, _)]) ⟨rfl, rfl, rfl, trivial⟩ ?_)
          refine Zb ?_
          refine Zby rfl (rfl) ?_
          refine Zs (Zaf (Zb (Za (ym rfl rfl (Zf (Zas rfl rfl rfl (Zu (by omega))) rfl ?_)))))
          refine ya rfl rfl (Zd (ρ' := [(5, _), (6, _)]) ⟨rfl, rfl, trivial⟩ ?_)
          refine Zae ?_
          refine ⟨mj - 1, [(5, _), (6, _)], [], by omega, ⟨rfl, rfl, trivial⟩, trivial, j + 1, by omega, hle11, (by first | rfl | simp), (by first | rfl | (simp only [List.cons.injEq, Prod.mk.injEq, SV.v.injEq, Value.int.injEq, true_and, and_true]; omega) | simp), ?_⟩
          rfl
        ·
         iterate 6 refine Zo rfl rfl rfl rfl ?_
         refine Zf (Zm rfl rfl rfl) rfl (ym rfl rfl ?_)
         iterate 6 refine Zo rfl rfl rfl rfl ?_
         refine Zf (Zm rfl rfl rfl) rfl (Zd (ρ' := [(5, _), (6, _), (70, _)]) ⟨rfl, rfl, rfl, trivial⟩ ?_)
         refine Zb ?_
         refine Zby rfl (rfl) ?_
         refine Zs (Zaf (Zb (Za (ym rfl rfl (Zf (Zas rfl rfl rfl (Zu (by omega))) rfl ?_)))))
         refine ya rfl rfl (Zd (ρ' := [(5, _), (6, _)]) ⟨rfl, rfl, trivial⟩ ?_)
         refine Zae ?_
         refine ⟨mj - 1, [(5, _), (6, _)], [], by omega, ⟨rfl, rfl, trivial⟩, trivial, j + 1, by omega, hle11, (by first | rfl | simp), (by first | rfl | (simp only [List.cons.injEq, Prod.mk.injEq, SV.v.injEq, Value.int.injEq, true_and, and_true]; omega) | simp), ?_⟩
         rfl
       ·
        skip
        refine Zat ?_
        refine Zp (Zp ?_)
        refine Zah ?_
        refine Zb (Zc (Za (Zq rfl rfl ?_)))
        refine Zw (caps := []) trivial rfl rfl Tryz.c6 rfl (FnP.mono (lawawake_fn uZ (((hT.mono hleX).mono hleY).mono hleZ)) ?_)
        rintro v u1 hle1 rfl
        refine ya rfl rfl (Zd (ρ' := [(2, _)]) ⟨rfl, trivial⟩ ?_)
        refine Zb (Zv ?_)
        refine Zav (.tmp rfl) ?_
        first
        | rfl
        | (exfalso
           rcases hk with e | e | e
           ·
            exact of_decide_eq_true hg13_6 e
           ·
            exact of_decide_eq_true hg13_14 e
           ·
            first | exact of_decide_eq_true hb13 e | exact of_decide_eq_true hb14 e)
end Go.Proofs.Ytoajhdnfdfbmaaa
