/-
  Contracts and lemmas, joined in one text.
-/
import Derived.Test.YtndilfigdbenoaaDoorMm10
import Derived.Test.YtndilfigdbenoaaDoorMmV
set_option linter.unusedVariables false
set_option linter.unusedSimpArgs false
/-
  The law's own functions: faults, square, told.
-/
set_option maxRecDepth 100000
set_option maxHeartbeats 16000000
namespace Go.Proofs.YtndilfigdbenoaaDoor
open Go.RowKit
end Go.Proofs.YtndilfigdbenoaaDoor
/-
  modmat's times, Mul.
-/
namespace Go.Proofs.YtndilfigdbenoaaDoor
open Go.RowKit
def dotp (p : Nat) (F : Nat → Nat) : Nat → Nat
  | 0 => 0
  | n + 1 => (dotp p F n + F n % p) % p
theorem dotp_lt {p : Nat} {F : Nat → Nat} (hp : 0 < p) : ∀ n, dotp p F n < p
  | 0 => hp
  | _ + 1 => Nat.mod_lt _ hp
theorem dotp_em {p : Nat} {F : Nat → Nat} : ∀ n, Em p (dotp p F n : Nat) (su n fun k => (F k : Int))
 | 0 => Em.rf _
 | n + 1 => by
  refine (Em.md _).trans ?_
  rw [Int.natCast_add]
  exact (dotp_em n).add (Em.md _)
def mulE (p : Nat) (A B : List (List Nat)) (C : Nat) (i k : Nat) : Nat := dotp p (fun j => nd (A.getD i []) j * nd (B.getD j []) k) C
def mulM (p : Nat) (A B : List (List Nat)) (C D : Nat) : List (List Nat) := mkM A.length D (mulE p A B C)
theorem wxtimes1 {w : World} {gx gy p i k nX cX nY cY C D : Nat} {tx ty : TypeId} {pX pY : Option Addr} {A B : List (List Nat)} (hbx : w.heap[gx]? = some (.cells [.int .u64 ((p : Nat) : Int), .slice pX nX cX, .int .i64 ((C : Nat) : Int)].toArray tx)) (hby : w.heap[gy]? = some (.cells [.int .u64 ((p : Nat) : Int), .slice pY nY cY, .int .i64 ((D : Nat) : Int)].toArray ty)) (hX : MS w pX nX A) (hY : MS w pY nY B) (hA : Shp p C A) (hB : Shp p D B) (hn : nY = C) (hC2 : C ≤ 2097152) (hD2 : D ≤ 2097152) (hp0 : 0 < p) (hp2 : p < 4294967296) (hi : i < nX) (hk : k < D) :
  Calls Tryd.prog 67 #[.int .i64 ((i : Nat) : Int), .int .i64 ((k : Nat) : Int), .pointer (some ⟨gx, 0, none⟩), .pointer (some ⟨gy, 0, none⟩)] w (Ret (Is (.int .u32 ((mulE p A B C i k : Nat) : Int))) w) := by
 have hXl := hX.1
 have hYl := hY.1
 have hS := Sep.init w
 refine went Tryd.func67 rfl (n := 37) rfl rfl ?_
 refine wseq (wreg (wl rfl (oassign (v := .int .u32 0) rfl rfl evc ?_)))
 refine wnil (thenN (wseq (wreg (wl rfl (oassign (v := .int .u32 0) rfl rfl evc ?_)))))
 refine wnil (thenN (wseq (wseq (wreg (wl rfl (ofieldAddr (g := gx) (off := 0) (0 + 2) rfl rfl (ev rfl rfl) Tryd.runUnderlying63 rfl Tryd.sizeOf3 rfl ?_))))))
 refine wl rfl (oloadc (v := .int .i64 (C : Int)) oneI rfl rfl (ev (v := .pointer (some ⟨gx, (0 + 2), none⟩)) rfl rfl) (hS.cellAt ((cell_sub (us := [.int .i64 (C : Int)]) (box_cells hbx) 2 rfl) 0 _ rfl)) ?_)
 refine wl rfl (omove (v := .int .i64 0) rfl rfl evc ?_)
 refine wnil (thenN (wblock ?_))
 refine wloop (σ := Nat) (fun j a9 w' => ∃ (fb : Nat → Value) (acc : Nat), a9 = act 37 (sets fb [(0, .int .i64 (i : Int)), (1, .int .i64 (k : Int)), (2, .pointer (some ⟨gx, 0, none⟩)), (3, .pointer (some ⟨gy, 0, none⟩)), (6, .int .u32 0), (7, .int .u32 (acc : Int)), (10, .int .i64 (C : Int)), (11, .int .i64 (j : Int))]) ∧ Sep w [] w' ∧ (j ≤ C) ∧ (acc = dotp p (fun j => nd (A.getD i []) j * nd (B.getD j []) k) j) ∧ (acc < p)) (fun j => C - j) (0) ⟨_, 0, act_sets (l := [(0, .int .i64 (i : Int)), (1, .int .i64 (k : Int)), (2, .pointer (some ⟨gx, 0, none⟩)), (3, .pointer (some ⟨gy, 0, none⟩)), (6, .int .u32 0), (7, .int .u32 0), (10, .int .i64 (C : Int)), (11, .int .i64 0)]) ⟨rfl, rfl, rfl, rfl, rfl, rfl, rfl, rfl, trivial⟩, hS, Nat.zero_le _, rfl, hp0⟩ ?_
 clear hS; rintro j _ w1 ⟨fb, acc, rfl, hS, hj, hacc, hlt⟩
 refine wseq (wreg ?_)
 by_cases hjl : j < C
 ·
  refine wl rfl (obin (u := .int .i64 (j : Int)) (v := .int .i64 (C : Int)) (z := .bool true) rfl rfl (ev rfl rfl) (ev rfl rfl) (bin_lss (decide_eq_true (by omega))) ?_)
  refine wnil (thenN (wseq ?_))
  refine wT (ev rfl rfl) ?_
  refine wskip (thenN (wseq (wblock (wseq (wreg (wl rfl (omove (v := .int .i64 (j : Int)) rfl rfl (ev rfl rfl) ?_)))))))
  refine wl rfl (oassign (v := .int .i64 (j : Int)) rfl rfl (ev rfl rfl) ?_)
  refine wnil (thenN ?_)
  obtain ⟨xa, hxa⟩ : ∃ r, (A)[i]? = some r := ⟨_, List.getElem?_eq_getElem (by have := hX.1; omega)⟩
  obtain ⟨ba, ofa, pa, ca, hpa, hca, hsa⟩ := hX.2.2 i _ hxa
  obtain ⟨xb, hxb⟩ : ∃ r, (B)[j]? = some r := ⟨_, List.getElem?_eq_getElem (by have := hY.1; omega)⟩
  obtain ⟨bb, ofb, pb, cb, hpb, hcb, hsb⟩ := hY.2.2 j _ hxb
  have hna := (hA.get hxa).1
  have hnb := (hB.get hxb).1
  have hla := nd_lt (k := j) (hA.get hxa).2 hp0
  have hlb := nd_lt (k := k) (hB.get hxb).2 hp0
  have hm9 := mod_lt32 (a := nd xa j * nd xb k) hp0 hp2
  obtain ⟨bce, oce, hpce, hcce⟩ := hsa.el (show j < xa.length by omega)
  obtain ⟨bcf, ocf, hpcf, hccf⟩ := hsb.el (show k < xb.length by omega)
  refine wstage 21 [14, 15, 16, 17, 18, 19, 20, 21, 22, 23, 24, 25, 26, 27, 28, 29, 30, 31, 32, 33, 34] [[], [], [], [], [3], [], [4, 5, 3], [6, 3, 4, 5], [], [7, 8, 3, 4, 5, 6], [9, 3, 4, 5, 6, 7, 8], [], [11], [], [12, 13, 11], [14, 11, 12, 13], [], [15, 16, 11, 12, 13, 14], [17, 11, 12, 13, 14, 15, 16], [2, 10, 18, 3, 4, 5, 6, 7, 8, 9, 11, 12, 13, 14, 15, 16, 17], [0, 1, 19, 2, 3, 4, 5, 6, 7, 8, 9, 10, 11, 12, 13, 14, 15, 16, 17, 18]] [[], [], [], [], [], [], [], [], [], [], [], [], [], [], [], [], [], [], [], [], []] [] [] (fun i9 => ([fun _ => Is (.agg #[.int .u64 (p : Int), .slice pX nX cX, .int .i64 (C : Int)]), fun _ => Is (.int .u32 (acc : Int)), fun _ => Is (.agg #[.int .u64 (p : Int), .slice pX nX cX, .int .i64 (C : Int)]), fun _ => Is (.pointer (some ⟨gx, (0 + 1), none⟩)), fun _ => Is (.slice pX nX cX), fun _ => Is (.int .i64 (i : Int)), fun _ => Is (.pointer (some ⟨ba, (ofa + i * 1), none⟩)), fun _ => Is (.slice pa xa.length ca), fun _ => Is (.int .i64 (j : Int)), fun _ => Is (.pointer (some ⟨bce, (oce + j * 1), none⟩)), fun _ => Is (.int .u32 (((nd xa j : Nat) : Int))), fun _ => Is (.pointer (some ⟨gy, (0 + 1), none⟩)), fun _ => Is (.slice pY nY cY), fun _ => Is (.int .i64 (j : Int)), fun _ => Is (.pointer (some ⟨bb, (ofb + j * 1), none⟩)), fun _ => Is (.slice pb xb.length cb), fun _ => Is (.int .i64 (k : Int)), fun _ => Is (.pointer (some ⟨bcf, (ocf + k * 1), none⟩)), fun _ => Is (.int .u32 (((nd xb k : Nat) : Int))), fun _ => Is (.int .u32 ((((nd xa j) * (nd xb k) % p : Nat) : Int))), fun _ => Is (.int .u32 ((((acc + ((nd xa j) * (nd xb k) % p)) % p : Nat) : Int)))] : List (List Value → Tell)).getD i9 (fun _ _ _ => False)) (heldNil) (fun d _ _ _ _ h => (by cases d <;> exact h)) (by kernel_rfl) (by kernel_rfl) (by kernel_rfl) hS ?_ ?_
  ·
   refine stepsCons rfl (fun Q f' w' ρ S ho hT hS hB => ?_) ?_
   ·exact .inl ⟨want_none rfl, oloadA (vs := [.int .u64 (p : Int), .slice pX nX cX, .int .i64 (C : Int)]) (show Agg Tryd.prog 63 3 from ⟨Tryd.isAgg63, Tryd.sizeOf63⟩) rfl rfl (ev (v := .pointer (some ⟨gx, 0, none⟩)) rfl (ho 2 rfl)) (fun j v hj => hS.cellAt ((box_cells hbx) j v hj)) rfl ⟨_, _, rfl, isI, New.same _⟩⟩
   refine stepsCons rfl (fun Q f' w' ρ S ho hT hS hB => ?_) ?_
   ·exact .inl ⟨want_none rfl, omove (v := .int .u32 (acc : Int)) rfl rfl (ev rfl (ho 7 rfl)) ⟨_, _, rfl, isI, New.same _⟩⟩
   refine stepsCons rfl (fun Q f' w' ρ S ho hT hS hB => ?_) ?_
   ·exact .inl ⟨want_none rfl, oloadA (vs := [.int .u64 (p : Int), .slice pX nX cX, .int .i64 (C : Int)]) (show Agg Tryd.prog 63 3 from ⟨Tryd.isAgg63, Tryd.sizeOf63⟩) rfl rfl (ev (v := .pointer (some ⟨gx, 0, none⟩)) rfl (ho 2 rfl)) (fun j v hj => hS.cellAt ((box_cells hbx) j v hj)) rfl ⟨_, _, rfl, isI, New.same _⟩⟩
   refine stepsCons rfl (fun Q f' w' ρ S ho hT hS hB => ?_) ?_
   ·exact .inl ⟨want_none rfl, ofieldAddr (g := gx) (off := 0) (0 + 1) rfl rfl (ev rfl (ho 2 rfl)) Tryd.runUnderlying63 rfl Tryd.sizeOf25 rfl ⟨_, _, rfl, isI, New.same _⟩⟩
   refine stepsCons rfl (fun Q f' w' ρ S ho hT hS hB => ?_) ?_
   ·obtain ⟨hv3, hr3⟩ := (hT 3 17 rfl rfl : (Is (.pointer (some ⟨gx, (0 + 1), none⟩))) _ _)
    obtain hS := hS.flat1 hr3
    exact .inl ⟨want_none rfl, oloadc (v := .slice pX nX cX) (show One Tryd.prog 25 from ⟨Tryd.isAgg25, Tryd.sizeOf25⟩) rfl rfl (ev (v := .pointer (some ⟨gx, (0 + 1), none⟩)) rfl hv3) (hS.cellAt ((cell_sub (us := [.slice pX nX cX]) (box_cells hbx) 1 rfl) 0 _ rfl)) ⟨_, _, rfl, isI, New.same _⟩⟩
   refine stepsCons rfl (fun Q f' w' ρ S ho hT hS hB => ?_) ?_
   ·exact .inl ⟨want_none rfl, omove (v := .int .i64 (i : Int)) rfl rfl (ev rfl (ho 0 rfl)) ⟨_, _, rfl, isI, New.same _⟩⟩
   refine stepsCons rfl (fun Q f' w' ρ S ho hT hS hB => ?_) ?_
   ·obtain ⟨hv4, hr4⟩ := (hT 4 18 rfl rfl : (Is (.slice pX nX cX)) _ _)
    obtain ⟨hv5, hr5⟩ := (hT 5 19 rfl rfl : (Is (.int .i64 (((i : Nat) : Int)))) _ _)
    obtain hS := hS.flat2 hr4 hr5
    exact .inl ⟨want_none rfl, oindex (p := pX) (g := ba) (off := ofa) (m := nX) (k := i) (j := (ofa + i * 1)) rfl rfl Tryd.runUnderlying25 Tryd.sizeOf52 (ev rfl hv4) (hpa) (ev rfl hv5) (by omega) rfl ⟨_, _, rfl, isI, New.same _⟩⟩
   refine stepsCons rfl (fun Q f' w' ρ S ho hT hS hB => ?_) ?_
   ·obtain ⟨hv6, hr6⟩ := (hT 6 20 rfl rfl : (Is (.pointer (some ⟨ba, (ofa + i * 1), none⟩))) _ _)
    obtain hS := hS.flat1 hr6
    exact .inl ⟨want_none rfl, oloadc (v := .slice pa xa.length ca) (show One Tryd.prog 52 from ⟨Tryd.isAgg52, Tryd.sizeOf52⟩) rfl rfl (ev (v := .pointer (some ⟨ba, (ofa + i * 1), none⟩)) rfl hv6) (hS.cellAt (hca 0 _ rfl)) ⟨_, _, rfl, isI, New.same _⟩⟩
   refine stepsCons rfl (fun Q f' w' ρ S ho hT hS hB => ?_) ?_
   ·exact .inl ⟨want_none rfl, omove (v := .int .i64 (j : Int)) rfl rfl (ev rfl (ho 8 rfl)) ⟨_, _, rfl, isI, New.same _⟩⟩
   refine stepsCons rfl (fun Q f' w' ρ S ho hT hS hB => ?_) ?_
   ·obtain ⟨hv7, hr7⟩ := (hT 7 21 rfl rfl : (Is (.slice pa xa.length ca)) _ _)
    obtain ⟨hv8, hr8⟩ := (hT 8 22 rfl rfl : (Is (.int .i64 (((j : Nat) : Int)))) _ _)
    obtain hS := hS.flat2 hr7 hr8
    exact .inl ⟨want_none rfl, oindex (p := pa) (g := bce) (off := oce) (m := xa.length) (k := j) (j := (oce + j * 1)) rfl rfl Tryd.runUnderlying52 Tryd.sizeOf27 (ev rfl hv7) (hpce) (ev rfl hv8) (by omega) rfl ⟨_, _, rfl, isI, New.same _⟩⟩
   refine stepsCons rfl (fun Q f' w' ρ S ho hT hS hB => ?_) ?_
   ·obtain ⟨hv9, hr9⟩ := (hT 9 23 rfl rfl : (Is (.pointer (some ⟨bce, (oce + j * 1), none⟩))) _ _)
    obtain hS := hS.flat1 hr9
    exact .inl ⟨want_none rfl, oloadc (v := .int .u32 (((nd xa j : Nat) : Int))) one32 rfl rfl (ev (v := .pointer (some ⟨bce, (oce + j * 1), none⟩)) rfl hv9) (hS.cellAt (hcce 0 _ rfl)) ⟨_, _, rfl, isI, New.same _⟩⟩
   refine stepsCons rfl (fun Q f' w' ρ S ho hT hS hB => ?_) ?_
   ·exact .inl ⟨want_none rfl, ofieldAddr (g := gy) (off := 0) (0 + 1) rfl rfl (ev rfl (ho 3 rfl)) Tryd.runUnderlying63 rfl Tryd.sizeOf25 rfl ⟨_, _, rfl, isI, New.same _⟩⟩
   refine stepsCons rfl (fun Q f' w' ρ S ho hT hS hB => ?_) ?_
   ·obtain ⟨hv11, hr11⟩ := (hT 11 25 rfl rfl : (Is (.pointer (some ⟨gy, (0 + 1), none⟩))) _ _)
    obtain hS := hS.flat1 hr11
    exact .inl ⟨want_none rfl, oloadc (v := .slice pY nY cY) (show One Tryd.prog 25 from ⟨Tryd.isAgg25, Tryd.sizeOf25⟩) rfl rfl (ev (v := .pointer (some ⟨gy, (0 + 1), none⟩)) rfl hv11) (hS.cellAt ((cell_sub (us := [.slice pY nY cY]) (box_cells hby) 1 rfl) 0 _ rfl)) ⟨_, _, rfl, isI, New.same _⟩⟩
   refine stepsCons rfl (fun Q f' w' ρ S ho hT hS hB => ?_) ?_
   ·exact .inl ⟨want_none rfl, omove (v := .int .i64 (j : Int)) rfl rfl (ev rfl (ho 8 rfl)) ⟨_, _, rfl, isI, New.same _⟩⟩
   refine stepsCons rfl (fun Q f' w' ρ S ho hT hS hB => ?_) ?_
   ·obtain ⟨hv12, hr12⟩ := (hT 12 26 rfl rfl : (Is (.slice pY nY cY)) _ _)
    obtain ⟨hv13, hr13⟩ := (hT 13 27 rfl rfl : (Is (.int .i64 (((j : Nat) : Int)))) _ _)
    obtain hS := hS.flat2 hr12 hr13
    exact .inl ⟨want_none rfl, oindex (p := pY) (g := bb) (off := ofb) (m := nY) (k := j) (j := (ofb + j * 1)) rfl rfl Tryd.runUnderlying25 Tryd.sizeOf52 (ev rfl hv12) (hpb) (ev rfl hv13) (by omega) rfl ⟨_, _, rfl, isI, New.same _⟩⟩
   refine stepsCons rfl (fun Q f' w' ρ S ho hT hS hB => ?_) ?_
   ·obtain ⟨hv14, hr14⟩ := (hT 14 28 rfl rfl : (Is (.pointer (some ⟨bb, (ofb + j * 1), none⟩))) _ _)
    obtain hS := hS.flat1 hr14
    exact .inl ⟨want_none rfl, oloadc (v := .slice pb xb.length cb) (show One Tryd.prog 52 from ⟨Tryd.isAgg52, Tryd.sizeOf52⟩) rfl rfl (ev (v := .pointer (some ⟨bb, (ofb + j * 1), none⟩)) rfl hv14) (hS.cellAt (hcb 0 _ rfl)) ⟨_, _, rfl, isI, New.same _⟩⟩
   refine stepsCons rfl (fun Q f' w' ρ S ho hT hS hB => ?_) ?_
   ·exact .inl ⟨want_none rfl, omove (v := .int .i64 (k : Int)) rfl rfl (ev rfl (ho 1 rfl)) ⟨_, _, rfl, isI, New.same _⟩⟩
   refine stepsCons rfl (fun Q f' w' ρ S ho hT hS hB => ?_) ?_
   ·obtain ⟨hv15, hr15⟩ := (hT 15 29 rfl rfl : (Is (.slice pb xb.length cb)) _ _)
    obtain ⟨hv16, hr16⟩ := (hT 16 30 rfl rfl : (Is (.int .i64 (((k : Nat) : Int)))) _ _)
    obtain hS := hS.flat2 hr15 hr16
    exact .inl ⟨want_none rfl, oindex (p := pb) (g := bcf) (off := ocf) (m := xb.length) (k := k) (j := (ocf + k * 1)) rfl rfl Tryd.runUnderlying52 Tryd.sizeOf27 (ev rfl hv15) (hpcf) (ev rfl hv16) (by omega) rfl ⟨_, _, rfl, isI, New.same _⟩⟩
   refine stepsCons rfl (fun Q f' w' ρ S ho hT hS hB => ?_) ?_
   ·obtain ⟨hv17, hr17⟩ := (hT 17 31 rfl rfl : (Is (.pointer (some ⟨bcf, (ocf + k * 1), none⟩))) _ _)
    obtain hS := hS.flat1 hr17
    exact .inl ⟨want_none rfl, oloadc (v := .int .u32 (((nd xb k : Nat) : Int))) one32 rfl rfl (ev (v := .pointer (some ⟨bcf, (ocf + k * 1), none⟩)) rfl hv17) (hS.cellAt (hccf 0 _ rfl)) ⟨_, _, rfl, isI, New.same _⟩⟩
   refine stepsCons rfl (fun Q f' w' ρ S ho hT hS hB => ?_) ?_
   ·obtain ⟨hv2, hr2⟩ := (hT 2 16 rfl rfl : (Is (.agg #[.int .u64 (((p : Nat) : Int)), .slice pX nX cX, .int .i64 (((C : Nat) : Int))])) _ _)
    obtain ⟨hv10, hr10⟩ := (hT 10 24 rfl rfl : (Is (.int .u32 (((nd xa j : Nat) : Int)))) _ _)
    obtain ⟨hv18, hr18⟩ := (hT 18 32 rfl rfl : (Is (.int .u32 (((nd xb k : Nat) : Int)))) _ _)
    obtain hS := hS.flat3 hr2 hr10 hr18
    exact .inl ⟨want_none rfl, ocall rfl rfl Tryd.call63 rfl (wxmul (a := (nd xa j)) (b := (nd xb k)) hp0 hp2 (by omega) (by omega)) (args3 (ev rfl hv2) (ev rfl hv10) (ev rfl hv18)) callN⟩
   refine stepsCons rfl (fun Q f' w' ρ S ho hT hS hB => ?_) ?_
   ·obtain ⟨hv0, hr0⟩ := (hT 0 14 rfl rfl : (Is (.agg #[.int .u64 (((p : Nat) : Int)), .slice pX nX cX, .int .i64 (((C : Nat) : Int))])) _ _)
    obtain ⟨hv1, hr1⟩ := (hT 1 15 rfl rfl : (Is (.int .u32 (((acc : Nat) : Int)))) _ _)
    obtain ⟨hv19, hr19⟩ := (hT 19 33 rfl rfl : (Is (.int .u32 ((((nd xa j) * (nd xb k) % p : Nat) : Int)))) _ _)
    obtain hS := hS.flat3 hr0 hr1 hr19
    exact .inl ⟨want_none rfl, ocall rfl rfl Tryd.call48 rfl (wxadd (a := acc) (b := ((nd xa j) * (nd xb k) % p)) hp0 hp2 (by omega) (by omega)) (args3 (ev rfl hv0) (ev rfl hv1) (ev rfl hv19)) callN⟩
   exact stepsNil
  ·
   intro vs ρ w2 f' hf hT hS
   obtain ⟨hv0, hr0⟩ := (hT 0 (by decide) : (Is (.agg #[.int .u64 (((p : Nat) : Int)), .slice pX nX cX, .int .i64 (((C : Nat) : Int))])) _ _)
   obtain ⟨hv1, hr1⟩ := (hT 1 (by decide) : (Is (.int .u32 (((acc : Nat) : Int)))) _ _)
   obtain ⟨hv2, hr2⟩ := (hT 2 (by decide) : (Is (.agg #[.int .u64 (((p : Nat) : Int)), .slice pX nX cX, .int .i64 (((C : Nat) : Int))])) _ _)
   obtain ⟨hv3, hr3⟩ := (hT 3 (by decide) : (Is (.pointer (some ⟨gx, (0 + 1), none⟩))) _ _)
   obtain ⟨hv4, hr4⟩ := (hT 4 (by decide) : (Is (.slice pX nX cX)) _ _)
   obtain ⟨hv5, hr5⟩ := (hT 5 (by decide) : (Is (.int .i64 (((i : Nat) : Int)))) _ _)
   obtain ⟨hv6, hr6⟩ := (hT 6 (by decide) : (Is (.pointer (some ⟨ba, (ofa + i * 1), none⟩))) _ _)
   obtain ⟨hv7, hr7⟩ := (hT 7 (by decide) : (Is (.slice pa xa.length ca)) _ _)
   obtain ⟨hv8, hr8⟩ := (hT 8 (by decide) : (Is (.int .i64 (((j : Nat) : Int)))) _ _)
   obtain ⟨hv9, hr9⟩ := (hT 9 (by decide) : (Is (.pointer (some ⟨bce, (oce + j * 1), none⟩))) _ _)
   obtain ⟨hv10, hr10⟩ := (hT 10 (by decide) : (Is (.int .u32 (((nd xa j : Nat) : Int)))) _ _)
   obtain ⟨hv11, hr11⟩ := (hT 11 (by decide) : (Is (.pointer (some ⟨gy, (0 + 1), none⟩))) _ _)
   obtain ⟨hv12, hr12⟩ := (hT 12 (by decide) : (Is (.slice pY nY cY)) _ _)
   obtain ⟨hv13, hr13⟩ := (hT 13 (by decide) : (Is (.int .i64 (((j : Nat) : Int)))) _ _)
   obtain ⟨hv14, hr14⟩ := (hT 14 (by decide) : (Is (.pointer (some ⟨bb, (ofb + j * 1), none⟩))) _ _)
   obtain ⟨hv15, hr15⟩ := (hT 15 (by decide) : (Is (.slice pb xb.length cb)) _ _)
   obtain ⟨hv16, hr16⟩ := (hT 16 (by decide) : (Is (.int .i64 (((k : Nat) : Int)))) _ _)
   obtain ⟨hv17, hr17⟩ := (hT 17 (by decide) : (Is (.pointer (some ⟨bcf, (ocf + k * 1), none⟩))) _ _)
   obtain ⟨hv18, hr18⟩ := (hT 18 (by decide) : (Is (.int .u32 (((nd xb k : Nat) : Int)))) _ _)
   obtain ⟨hv19, hr19⟩ := (hT 19 (by decide) : (Is (.int .u32 ((((nd xa j) * (nd xb k) % p : Nat) : Int)))) _ _)
   obtain ⟨hv20, hr20⟩ := (hT 20 (by decide) : (Is (.int .u32 ((((acc + ((nd xa j) * (nd xb k) % p)) % p : Nat) : Int)))) _ _)
   simp only [pool, if_true, hr0, hr1, hr2, hr3, hr4, hr5, hr6, hr7, hr8, hr9, hr10, hr11, hr12, hr13, hr14, hr15, hr16, hr17, hr18, hr19, hr20, List.nil_append, List.cons_append, List.append_nil] at hS
   simp only [layf, hv0, hv1, hv2, hv3, hv4, hv5, hv6, hv7, hv8, hv9, hv10, hv11, hv12, hv13, hv14, hv15, hv16, hv17, hv18, hv19, hv20] at hf
   subst hf; clear hT hv0 hv1 hv2 hv3 hv4 hv5 hv6 hv7 hv8 hv9 hv10 hv11 hv12 hv13 hv14 hv15 hv16 hv17 hv18 hv19 hv20 hr0 hr1 hr2 hr3 hr4 hr5 hr6 hr7 hr8 hr9 hr10 hr11 hr12 hr13 hr14 hr15 hr16 hr17 hr18 hr19 hr20
   refine wlate 21 rfl (by kernel_rfl) (oassign (v := .int .u32 ((((acc + ((nd xa j) * (nd xb k) % p)) % p : Nat) : Int))) rfl rfl (ev rfl rfl) ?_)
   refine ⟨heldNil, ?_⟩
   refine wdone rfl ?_
   refine blkN (thenN (wreg (wl rfl (obin (u := .int .i64 (j : Int)) (v := .int .i64 1) (z := .int .i64 (((j + 1 : Nat) : Int))) rfl rfl (ev rfl rfl) evc (bin_add (wrap_i64 (by omega) (by omega))) ?_))))
   refine wl rfl (omove (v := .int .i64 (((j + 1 : Nat) : Int))) rfl rfl (ev rfl rfl) ?_)
   refine wnil (thenN ?_)
   exact ⟨(j + 1), ⟨_, _, act_sets (l := [(0, .int .i64 (i : Int)), (1, .int .i64 (k : Int)), (2, .pointer (some ⟨gx, 0, none⟩)), (3, .pointer (some ⟨gy, 0, none⟩)), (6, .int .u32 0), (7, .int .u32 ((((acc + ((nd xa j) * (nd xb k) % p)) % p : Nat) : Int))), (10, .int .i64 (C : Int)), (11, .int .i64 (((j + 1 : Nat) : Int)))]) ⟨rfl, rfl, rfl, rfl, rfl, rfl, rfl, rfl, trivial⟩, hS.pick [] (by decide) rfl, by omega, by rw [dotp, ← hacc, getD_get hxa, getD_get hxb], Nat.mod_lt _ hp0⟩, by omega⟩
 ·
  refine wl rfl (obin (u := .int .i64 (j : Int)) (v := .int .i64 (C : Int)) (z := .bool false) rfl rfl (ev rfl rfl) (ev rfl rfl) (bin_lss (decide_eq_false (by omega))) ?_)
  refine wnil (thenN (wseq ?_))
  refine wF (ev rfl rfl) ?_
  refine wexit ?_
  refine thenE ?_
  refine thenE ?_
  refine blkE ?_
  refine thenN (wseq (wreg (wl rfl (omove (v := .int .u32 (acc : Int)) rfl rfl (ev rfl rfl) ?_))))
  refine wl rfl (oassign (v := .int .u32 (acc : Int)) rfl rfl (ev rfl rfl) ?_)
  refine wnil (thenN ?_)
  refine wleave ?_
  have hjC : j = C := by omega
  refine wret1 Tryd.results67 (tellT (v := .int .u32 (acc : Int)) rfl rfl) ?_
  exact ⟨_, _, rfl, ⟨by rw [hacc, hjC]; rfl, rfl⟩, hS.new0⟩
theorem wxtimes {w : World} {p nX cX nY cY C D : Nat} {pX pY : Option Addr} {A B : List (List Nat)} (hX : MS w pX nX A) (hY : MS w pY nY B) (hA : Shp p C A) (hB : Shp p D B) (hn : nY = C) (hC2 : C ≤ 2097152) (hD2 : D ≤ 2097152) (hp0 : 0 < p) (hp2 : p < 4294967296) (hn2 : nX ≤ 2097152) :
  Calls Tryd.prog 47 #[.agg #[.int .u64 ((p : Nat) : Int), .slice pX nX cX, .int .i64 ((C : Nat) : Int)], .agg #[.int .u64 ((p : Nat) : Int), .slice pY nY cY, .int .i64 ((D : Nat) : Int)]] w (Ret (MdT p nX D (mulE p A B C)) w) := by
 have hS := Sep.init w
 refine went Tryd.func47 rfl (n := 14) rfl rfl ?_
 refine wseq (wreg (wl rfl (obox [.int .u64 (p : Int), .slice pX nX cX, .int .i64 (C : Int)] hS rfl rfl (ev (v := .agg #[.int .u64 (p : Int), .slice pX nX cX, .int .i64 (C : Int)]) rfl rfl) rfl ?_)))
 clear hS; intro g1 w2 hS
 refine wl rfl (obox [.int .u64 (p : Int), .slice pY nY cY, .int .i64 (D : Int)] hS rfl rfl (ev (v := .agg #[.int .u64 (p : Int), .slice pY nY cY, .int .i64 (D : Int)]) rfl rfl) rfl ?_)
 clear hS; intro g3 w4 hS
 refine wl rfl (oalloc [.int .u64 0, .slice none 0 0, .int .i64 0] hS rfl rfl Tryd.zeroValue63 rfl ?_)
 clear hS; intro g5 w6 hS
 refine wnil (thenN (wseq (wreg (wl rfl (ofieldAddr (g := g1) (off := 0) 0 rfl rfl (ev rfl rfl) Tryd.runUnderlying63 rfl Tryd.sizeOf47 rfl ?_)))))
 refine wl rfl (oload1 (v := .int .u64 (p : Int)) (show One Tryd.prog 47 from ⟨Tryd.isAgg47, Tryd.sizeOf47⟩) hS 2 rfl rfl (ev rfl rfl) rfl rfl ?_)
 refine wl rfl (ofieldAddr (g := g1) (off := 0) 1 rfl rfl (ev rfl rfl) Tryd.runUnderlying63 rfl Tryd.sizeOf25 rfl ?_)
 refine wl rfl (oload1 (v := .slice pX nX cX) (show One Tryd.prog 25 from ⟨Tryd.isAgg25, Tryd.sizeOf25⟩) hS 2 rfl rfl (ev rfl rfl) rfl rfl ?_)
 refine wl rfl (olen rfl rfl rfl Tryd.runUnderlying25 (p := pX) (k := nX) (m := cX) (ev rfl rfl) ?_)
 refine wl rfl (ofieldAddr (g := g3) (off := 0) 2 rfl rfl (ev rfl rfl) Tryd.runUnderlying63 rfl Tryd.sizeOf3 rfl ?_)
 refine wl rfl (oload1 (v := .int .i64 (D : Int)) oneI hS 1 rfl rfl (ev rfl rfl) rfl rfl ?_)
 refine wl rfl (omakeFunc (cs := #[.pointer (some ⟨g1, 0, none⟩), .pointer (some ⟨g3, 0, none⟩)]) rfl rfl (args2 (ev rfl rfl) (ev rfl rfl)) ?_)
 refine wl rfl (ocall rfl rfl Tryd.call58 rfl (wxmade (caps := #[.pointer (some ⟨g1, 0, none⟩), .pointer (some ⟨g3, 0, none⟩)]) Tryd.call67 (fun w9 hb9 i k hi9 hk9 => wxtimes1 ((hb9.block _ (Array.getElem?_eq_some_iff.1 (hS.blkAt 2 rfl)).1).trans (hS.blkAt 2 rfl)) ((hb9.block _ (Array.getElem?_eq_some_iff.1 (hS.blkAt 1 rfl)).1).trans (hS.blkAt 1 rfl)) ((hX.at hS).on hb9 (Nat.le_refl _)) ((hY.at hS).on hb9 (Nat.le_refl _)) hA hB hn hC2 hD2 hp0 hp2 hi9 hk9) (fun i k _ _ => Nat.lt_trans (dotp_lt hp0 _) hp2) (by omega) (by omega)) (args4 (ev rfl rfl) (ev rfl rfl) (ev rfl rfl) (ev rfl rfl)) ?_)
 rintro _ w7 ⟨_, _, rfl, ⟨pI, cI, QI, hQI, rfl, rfl⟩, hN⟩
 refine ⟨_, rfl, ?_⟩
 replace hS := hS.news hN; clear hN
 refine wl rfl (ostore [.int .u64 (p : Int), .slice pI nX cI, .int .i64 (D : Int)] [.int .u64 (p : Int), .slice pI nX cI, .int .i64 (D : Int)] Tryd.sizeOf63 hS 1 rfl rfl (ev rfl rfl) (ev (v := .agg #[.int .u64 (p : Int), .slice pI nX cI, .int .i64 (D : Int)]) rfl rfl) rfl rfl rfl rfl rfl rfl ?_)
 clear hS; intro w8 hS
 refine wnil (thenN ?_)
 refine wleave ?_
 refine wret1 Tryd.results47 (tellC (cs := [.int .u64 (p : Int), .slice pI nX cI, .int .i64 (D : Int)]) (show Agg Tryd.prog 63 3 from ⟨Tryd.isAgg63, Tryd.sizeOf63⟩) hS 1 rfl rfl rfl rfl) ?_
 exact ⟨_, _, rfl, ⟨_, _, _, hQI, rfl, rfl⟩, hS.newR 0 rfl rfl⟩
theorem wxmulM40 {pa pb : Option Addr} {na ca nb cb p : Nat} {A B : List (List Nat)} {w : World} (ht : Tb w) (hA : MS w pa na A) (hB : MS w pb nb B) (hp2 : p < 4294967296) (hsA : SmallM A) (hsB : SmallM B) (hp : ¬ MR.Pr p) :
  Calls Tryd.prog 23 #[.slice pa na ca, .slice pb nb cb, .int .u32 ((p : Nat) : Int)] w (Ret (Is (.tuple #[.slice none 0 0, .int .i64 40])) w) := by
 have hS := Sep.init w
 refine went Tryd.func23 rfl (n := 39) rfl rfl ?_
 refine wseq (wreg (wl rfl (oassign (v := .slice none 0 0) rfl rfl evc ?_)))
 refine wl rfl (oassign (v := .int .i64 0) rfl rfl evc ?_)
 refine wnil (thenN (wseq (wreg (wl rfl (omove (v := .int .u32 (p : Int)) rfl rfl (ev rfl rfl) ?_)))))
 refine wl rfl (omove (v := .slice pa na ca) rfl rfl (ev rfl rfl) ?_)
 refine wl rfl (omove (v := .slice pb nb cb) rfl rfl (ev rfl rfl) ?_)
 refine wl rfl (obslice (ps := #[(0, .slice pa na ca), (1, .slice pb nb cb)]) (z := .slice none 0 0) [.slice pa na ca, .slice pb nb cb] hS rfl rfl Tryd.runUnderlying81 Tryd.sizeOf26 Tryd.zeroValue26 (parts2 (ev (v := .slice pa na ca) rfl rfl) (ev (v := .slice pb nb cb) rfl rfl)) rfl (by decide) (fill1_2s rfl rfl rfl) ?_)
 clear hS; intro g1 w2 hS
 refine wl rfl (ocall rfl rfl Tryd.call45 rfl (wxall40 (ht.at hS) (LMS.two (hS.blkAt 0 rfl) (hA.at hS) (hB.at hS)) hp2 (by omega) (fun N h => by simp at h; rcases h with rfl | rfl <;> assumption) (hp)) (args2 (ev rfl rfl) (ev rfl rfl)) ?_)
 rintro _ w3 ⟨_, _, rfl, ⟨rfl, rfl⟩, hN⟩
 refine ⟨_, rfl, ?_⟩
 replace hS := hS.news hN; clear hN
 refine wl rfl (omove (v := .tuple #[.slice none 0 0, .int .i64 40]) rfl rfl (ev rfl rfl) ?_)
 refine wl rfl (oextract (vs := [.slice none 0 0, .int .i64 40]) (v := .slice none 0 0) rfl rfl (ev rfl rfl) rfl ?_)
 refine wl rfl (oextract (vs := [.slice none 0 0, .int .i64 40]) (v := .int .i64 40) rfl rfl (ev rfl rfl) rfl ?_)
 refine wl rfl (oassign (v := .slice none 0 0) rfl rfl (ev rfl rfl) ?_)
 refine wl rfl (oassign (v := .int .i64 40) rfl rfl (ev rfl rfl) ?_)
 refine wnil (thenN (wseq (wseq (wreg (wl rfl (omove (v := .int .i64 40) rfl rfl (ev rfl rfl) ?_))))))
 refine wl rfl (obin (u := .int .i64 40) (v := .int .i64 0) (z := .bool true) rfl rfl (ev rfl rfl) evc (bin_neq (by decide)) ?_)
 refine wnil (thenN ?_)
 refine wT (ev rfl rfl) ?_
 refine wseq (wreg (wl rfl (omove (v := .int .i64 40) rfl rfl (ev rfl rfl) ?_)))
 refine wl rfl (oassign (v := .slice none 0 0) rfl rfl evc ?_)
 refine wl rfl (oassign (v := .int .i64 40) rfl rfl (ev rfl rfl) ?_)
 refine wnil (thenN ?_)
 refine wleave ?_
 refine thenR ?_
 refine wret2 Tryd.results23 (tellT (v := .slice none 0 0) rfl rfl) (tellT (v := .int .i64 40) rfl rfl) ?_
 exact ⟨_, _, rfl, isI, hS.new0⟩
theorem wxmulM2 {pa pb : Option Addr} {na ca nb cb p : Nat} {A B : List (List Nat)} {w : World} (ht : Tb w) (hA : MS w pa na A) (hB : MS w pb nb B) (hp2 : p < 4294967296) (hsA : SmallM A) (hsB : SmallM B) (hp : MR.Pr p) (hr : ¬ (RectM A ∧ RectM B)) :
  Calls Tryd.prog 23 #[.slice pa na ca, .slice pb nb cb, .int .u32 ((p : Nat) : Int)] w (Ret (Is (.tuple #[.slice none 0 0, .int .i64 2])) w) := by
 have hS := Sep.init w
 refine went Tryd.func23 rfl (n := 39) rfl rfl ?_
 refine wseq (wreg (wl rfl (oassign (v := .slice none 0 0) rfl rfl evc ?_)))
 refine wl rfl (oassign (v := .int .i64 0) rfl rfl evc ?_)
 refine wnil (thenN (wseq (wreg (wl rfl (omove (v := .int .u32 (p : Int)) rfl rfl (ev rfl rfl) ?_)))))
 refine wl rfl (omove (v := .slice pa na ca) rfl rfl (ev rfl rfl) ?_)
 refine wl rfl (omove (v := .slice pb nb cb) rfl rfl (ev rfl rfl) ?_)
 refine wl rfl (obslice (ps := #[(0, .slice pa na ca), (1, .slice pb nb cb)]) (z := .slice none 0 0) [.slice pa na ca, .slice pb nb cb] hS rfl rfl Tryd.runUnderlying81 Tryd.sizeOf26 Tryd.zeroValue26 (parts2 (ev (v := .slice pa na ca) rfl rfl) (ev (v := .slice pb nb cb) rfl rfl)) rfl (by decide) (fill1_2s rfl rfl rfl) ?_)
 clear hS; intro g1 w2 hS
 refine wl rfl (ocall rfl rfl Tryd.call45 rfl (wxallE (ht.at hS) (LMS.two (hS.blkAt 0 rfl) (hA.at hS) (hB.at hS)) hp2 (by omega) (fun N h => by simp at h; rcases h with rfl | rfl <;> assumption) (hp) (fun h => hr ⟨h A (by simp), h B (by simp)⟩)) (args2 (ev rfl rfl) (ev rfl rfl)) ?_)
 rintro _ w3 ⟨_, _, rfl, ⟨rfl, rfl⟩, hN⟩
 refine ⟨_, rfl, ?_⟩
 replace hS := hS.news hN; clear hN
 refine wl rfl (omove (v := .tuple #[.slice none 0 0, .int .i64 2]) rfl rfl (ev rfl rfl) ?_)
 refine wl rfl (oextract (vs := [.slice none 0 0, .int .i64 2]) (v := .slice none 0 0) rfl rfl (ev rfl rfl) rfl ?_)
 refine wl rfl (oextract (vs := [.slice none 0 0, .int .i64 2]) (v := .int .i64 2) rfl rfl (ev rfl rfl) rfl ?_)
 refine wl rfl (oassign (v := .slice none 0 0) rfl rfl (ev rfl rfl) ?_)
 refine wl rfl (oassign (v := .int .i64 2) rfl rfl (ev rfl rfl) ?_)
 refine wnil (thenN (wseq (wseq (wreg (wl rfl (omove (v := .int .i64 2) rfl rfl (ev rfl rfl) ?_))))))
 refine wl rfl (obin (u := .int .i64 2) (v := .int .i64 0) (z := .bool true) rfl rfl (ev rfl rfl) evc (bin_neq (by decide)) ?_)
 refine wnil (thenN ?_)
 refine wT (ev rfl rfl) ?_
 refine wseq (wreg (wl rfl (omove (v := .int .i64 2) rfl rfl (ev rfl rfl) ?_)))
 refine wl rfl (oassign (v := .slice none 0 0) rfl rfl evc ?_)
 refine wl rfl (oassign (v := .int .i64 2) rfl rfl (ev rfl rfl) ?_)
 refine wnil (thenN ?_)
 refine wleave ?_
 refine thenR ?_
 refine wret2 Tryd.results23 (tellT (v := .slice none 0 0) rfl rfl) (tellT (v := .int .i64 2) rfl rfl) ?_
 exact ⟨_, _, rfl, isI, hS.new0⟩
theorem wxmulM3 {pa pb : Option Addr} {na ca nb cb p : Nat} {A B : List (List Nat)} {w : World} (ht : Tb w) (hA : MS w pa na A) (hB : MS w pb nb B) (hp2 : p < 4294967296) (hsA : SmallM A) (hsB : SmallM B) (hp : MR.Pr p) (hrA : RectM A) (hrB : RectM B) (hq : colsM A ≠ B.length) :
  Calls Tryd.prog 23 #[.slice pa na ca, .slice pb nb cb, .int .u32 ((p : Nat) : Int)] w (Ret (Is (.tuple #[.slice none 0 0, .int .i64 2])) w) := by
 have hS := Sep.init w
 refine went Tryd.func23 rfl (n := 39) rfl rfl ?_
 refine wseq (wreg (wl rfl (oassign (v := .slice none 0 0) rfl rfl evc ?_)))
 refine wl rfl (oassign (v := .int .i64 0) rfl rfl evc ?_)
 refine wnil (thenN (wseq (wreg (wl rfl (omove (v := .int .u32 (p : Int)) rfl rfl (ev rfl rfl) ?_)))))
 refine wl rfl (omove (v := .slice pa na ca) rfl rfl (ev rfl rfl) ?_)
 refine wl rfl (omove (v := .slice pb nb cb) rfl rfl (ev rfl rfl) ?_)
 refine wl rfl (obslice (ps := #[(0, .slice pa na ca), (1, .slice pb nb cb)]) (z := .slice none 0 0) [.slice pa na ca, .slice pb nb cb] hS rfl rfl Tryd.runUnderlying81 Tryd.sizeOf26 Tryd.zeroValue26 (parts2 (ev (v := .slice pa na ca) rfl rfl) (ev (v := .slice pb nb cb) rfl rfl)) rfl (by decide) (fill1_2s rfl rfl rfl) ?_)
 clear hS; intro g1 w2 hS
 refine wl rfl (ocall rfl rfl Tryd.call45 rfl (wxall2 (ht.at hS) (hS.blkAt 0 rfl) (hA.at hS) (hB.at hS) (hp) hp2 (hsA) (hsB) (hrA) (hrB)) (args2 (ev rfl rfl) (ev rfl rfl)) ?_)
 rintro _ w3 ⟨_, _, rfl, ⟨pL, cL, pX, cX, QX, pY, cY, QY, hQX, hQY, rfl, rfl⟩, hN⟩
 refine ⟨_, rfl, ?_⟩
 replace hS := hS.news hN; clear hN
 refine wl rfl (omove (v := .tuple #[.slice pL 2 cL, .int .i64 0]) rfl rfl (ev rfl rfl) ?_)
 refine wl rfl (oextract (vs := [.slice pL 2 cL, .int .i64 0]) (v := .slice pL 2 cL) rfl rfl (ev rfl rfl) rfl ?_)
 refine wl rfl (oextract (vs := [.slice pL 2 cL, .int .i64 0]) (v := .int .i64 0) rfl rfl (ev rfl rfl) rfl ?_)
 refine wl rfl (oassign (v := .slice pL 2 cL) rfl rfl (ev rfl rfl) ?_)
 refine wl rfl (oassign (v := .int .i64 0) rfl rfl (ev rfl rfl) ?_)
 refine wnil (thenN (wseq (wseq (wreg (wl rfl (omove (v := .int .i64 0) rfl rfl (ev rfl rfl) ?_))))))
 refine wl rfl (obin (u := .int .i64 0) (v := .int .i64 0) (z := .bool false) rfl rfl (ev rfl rfl) evc (bin_neq (by decide)) ?_)
 refine wnil (thenN ?_)
 refine wF (ev rfl rfl) ?_
 refine wskip (thenN (wseq (wseq ?_)))
 obtain ⟨gl4, hgl4⟩ := hS.lstPtr 2 rfl (by omega)
 refine wstage 10 [21, 22, 23, 24, 25, 26, 27, 28, 29, 30] [[], [0], [1, 0], [2, 0, 1], [], [4], [5, 4], [6, 4, 5], [7, 4, 5, 6], [3, 8, 0, 1, 2, 4, 5, 6, 7]] [[], [], [], [], [], [], [], [], [], []] [] [] (fun i9 => ([fun _ => Is (.slice pL 2 cL), fun _ => Is (.pointer (some ⟨gl4, 0, none⟩)), fun _ => Is (.pointer (some ⟨gl4, 2, none⟩)), fun _ => Is (.int .i64 (((colsM A : Nat) : Int))), fun _ => Is (.slice pL 2 cL), fun _ => Is (.pointer (some ⟨gl4, 3, none⟩)), fun _ => Is (.pointer (some ⟨gl4, 4, none⟩)), fun _ => Is (.slice pY B.length cY), fun _ => Is (.int .i64 (B.length : Int)), fun _ => Is (.bool true)] : List (List Value → Tell)).getD i9 (fun _ _ _ => False)) (heldNil) (fun d _ _ _ _ h => (by cases d <;> exact h)) (by kernel_rfl) (by kernel_rfl) (by kernel_rfl) hS ?_ ?_
 ·
  refine stepsCons rfl (fun Q f' w' ρ S ho hT hS hB => ?_) ?_
  ·exact .inl ⟨want_none rfl, omove (v := .slice pL 2 cL) rfl rfl (ev rfl (ho 8 rfl)) ⟨_, _, rfl, isI, New.same _⟩⟩
  refine stepsCons rfl (fun Q f' w' ρ S ho hT hS hB => ?_) ?_
  ·obtain ⟨hv0, hr0⟩ := (hT 0 21 rfl rfl : (Is (.slice pL 2 cL)) _ _)
   obtain hS := hS.flat1 hr0
   exact .inl ⟨want_none rfl, oindex (p := pL) (g := gl4) (off := 0) (m := 2) (k := 0) (j := 0) rfl rfl Tryd.runUnderlying73 Tryd.sizeOf63 (ev rfl hv0) (hgl4) evc (by omega) rfl ⟨_, _, rfl, isI, New.same _⟩⟩
  refine stepsCons rfl (fun Q f' w' ρ S ho hT hS hB => ?_) ?_
  ·obtain ⟨hv1, hr1⟩ := (hT 1 22 rfl rfl : (Is (.pointer (some ⟨gl4, 0, none⟩))) _ _)
   obtain hS := hS.flat1 hr1
   exact .inl ⟨want_none rfl, ofieldAddr (g := gl4) (off := 0) 2 rfl rfl (ev rfl hv1) Tryd.runUnderlying63 rfl Tryd.sizeOf3 rfl ⟨_, _, rfl, isI, New.same _⟩⟩
  refine stepsCons rfl (fun Q f' w' ρ S ho hT hS hB => ?_) ?_
  ·obtain ⟨hv2, hr2⟩ := (hT 2 23 rfl rfl : (Is (.pointer (some ⟨gl4, 2, none⟩))) _ _)
   obtain hS := hS.flat1 hr2
   exact .inl ⟨want_none rfl, oloadc (v := .int .i64 (((colsM A : Nat) : Int))) oneI rfl rfl (ev (v := .pointer (some ⟨gl4, 2, none⟩)) rfl hv2) (hS.lstAt 2 rfl hgl4 0 2 rfl rfl (by omega) rfl) ⟨_, _, rfl, isI, New.same _⟩⟩
  refine stepsCons rfl (fun Q f' w' ρ S ho hT hS hB => ?_) ?_
  ·exact .inl ⟨want_none rfl, omove (v := .slice pL 2 cL) rfl rfl (ev rfl (ho 8 rfl)) ⟨_, _, rfl, isI, New.same _⟩⟩
  refine stepsCons rfl (fun Q f' w' ρ S ho hT hS hB => ?_) ?_
  ·obtain ⟨hv4, hr4⟩ := (hT 4 25 rfl rfl : (Is (.slice pL 2 cL)) _ _)
   obtain hS := hS.flat1 hr4
   exact .inl ⟨want_none rfl, oindex (p := pL) (g := gl4) (off := 0) (m := 2) (k := 1) (j := 3) rfl rfl Tryd.runUnderlying73 Tryd.sizeOf63 (ev rfl hv4) (hgl4) evc (by omega) rfl ⟨_, _, rfl, isI, New.same _⟩⟩
  refine stepsCons rfl (fun Q f' w' ρ S ho hT hS hB => ?_) ?_
  ·obtain ⟨hv5, hr5⟩ := (hT 5 26 rfl rfl : (Is (.pointer (some ⟨gl4, 3, none⟩))) _ _)
   obtain hS := hS.flat1 hr5
   exact .inl ⟨want_none rfl, ofieldAddr (g := gl4) (off := 3) 4 rfl rfl (ev rfl hv5) Tryd.runUnderlying63 rfl Tryd.sizeOf25 rfl ⟨_, _, rfl, isI, New.same _⟩⟩
  refine stepsCons rfl (fun Q f' w' ρ S ho hT hS hB => ?_) ?_
  ·obtain ⟨hv6, hr6⟩ := (hT 6 27 rfl rfl : (Is (.pointer (some ⟨gl4, 4, none⟩))) _ _)
   obtain hS := hS.flat1 hr6
   exact .inl ⟨want_none rfl, oloadc (v := .slice pY B.length cY) (show One Tryd.prog 25 from ⟨Tryd.isAgg25, Tryd.sizeOf25⟩) rfl rfl (ev (v := .pointer (some ⟨gl4, 4, none⟩)) rfl hv6) (hS.lstAt 2 rfl hgl4 1 1 rfl rfl (by omega) rfl) ⟨_, _, rfl, isI, New.same _⟩⟩
  refine stepsCons rfl (fun Q f' w' ρ S ho hT hS hB => ?_) ?_
  ·obtain ⟨hv7, hr7⟩ := (hT 7 28 rfl rfl : (Is (.slice pY B.length cY)) _ _)
   obtain hS := hS.flat1 hr7
   exact .inl ⟨want_none rfl, olen rfl rfl rfl Tryd.runUnderlying25 (p := pY) (k := B.length) (m := cY) (ev rfl hv7) ⟨_, _, rfl, isI, New.same _⟩⟩
  refine stepsCons rfl (fun Q f' w' ρ S ho hT hS hB => ?_) ?_
  ·obtain ⟨hv3, hr3⟩ := (hT 3 24 rfl rfl : (Is (.int .i64 (((colsM A : Nat) : Int)))) _ _)
   obtain ⟨hv8, hr8⟩ := (hT 8 29 rfl rfl : (Is (.int .i64 (((B.length : Nat) : Int)))) _ _)
   obtain hS := hS.flat2 hr3 hr8
   exact .inl ⟨want_none rfl, obin (u := .int .i64 (((colsM A : Nat) : Int))) (v := .int .i64 (B.length : Int)) (z := .bool true) rfl rfl (ev rfl hv3) (ev rfl hv8) (bin_neq (neT (by omega))) ⟨_, _, rfl, isI, New.same _⟩⟩
  exact stepsNil
 ·
  intro vs ρ w5 f' hf hT hS
  obtain ⟨hv0, hr0⟩ := (hT 0 (by decide) : (Is (.slice pL 2 cL)) _ _)
  obtain ⟨hv1, hr1⟩ := (hT 1 (by decide) : (Is (.pointer (some ⟨gl4, 0, none⟩))) _ _)
  obtain ⟨hv2, hr2⟩ := (hT 2 (by decide) : (Is (.pointer (some ⟨gl4, 2, none⟩))) _ _)
  obtain ⟨hv3, hr3⟩ := (hT 3 (by decide) : (Is (.int .i64 (((colsM A : Nat) : Int)))) _ _)
  obtain ⟨hv4, hr4⟩ := (hT 4 (by decide) : (Is (.slice pL 2 cL)) _ _)
  obtain ⟨hv5, hr5⟩ := (hT 5 (by decide) : (Is (.pointer (some ⟨gl4, 3, none⟩))) _ _)
  obtain ⟨hv6, hr6⟩ := (hT 6 (by decide) : (Is (.pointer (some ⟨gl4, 4, none⟩))) _ _)
  obtain ⟨hv7, hr7⟩ := (hT 7 (by decide) : (Is (.slice pY B.length cY)) _ _)
  obtain ⟨hv8, hr8⟩ := (hT 8 (by decide) : (Is (.int .i64 (((B.length : Nat) : Int)))) _ _)
  obtain ⟨hv9, hr9⟩ := (hT 9 (by decide) : (Is (.bool true)) _ _)
  simp only [pool, if_true, hr0, hr1, hr2, hr3, hr4, hr5, hr6, hr7, hr8, hr9, List.nil_append, List.cons_append, List.append_nil] at hS
  simp only [layf, hv0, hv1, hv2, hv3, hv4, hv5, hv6, hv7, hv8, hv9] at hf
  subst hf; clear hT hv0 hv1 hv2 hv3 hv4 hv5 hv6 hv7 hv8 hv9 hr0 hr1 hr2 hr3 hr4 hr5 hr6 hr7 hr8 hr9
  refine wdone rfl ?_
  refine thenN ?_
  refine wT (ev rfl rfl) ?_
  refine wseq (wreg (wl rfl (oassign (v := .slice none 0 0) rfl rfl evc ?_)))
  refine wl rfl (oassign (v := .int .i64 2) rfl rfl evc ?_)
  refine wnil (thenN ?_)
  refine wleave ?_
  refine thenR ?_
  refine wret2 Tryd.results23 (tellT (v := .slice none 0 0) rfl rfl) (tellT (v := .int .i64 2) rfl rfl) ?_
  exact ⟨_, _, rfl, isI, hS.new0⟩
theorem wxmulM {pa pb : Option Addr} {na ca nb cb p : Nat} {A B : List (List Nat)} {w : World} (ht : Tb w) (hA : MS w pa na A) (hB : MS w pb nb B) (hp2 : p < 4294967296) (hsA : SmallM A) (hsB : SmallM B) (hp : MR.Pr p) (hrA : RectM A) (hrB : RectM B) (hq : colsM A = B.length) :
  Calls Tryd.prog 23 #[.slice pa na ca, .slice pb nb cb, .int .u32 ((p : Nat) : Int)] w (Ret (MmE (mulM p (modM p A) (modM p B) (colsM A) (colsM B)) 0) w) := by
 have hp1 := hp.1
 have hp0 : 0 < p := by omega
 have hcA := hsA.cols
 have hcB := hsB.cols
 have hlA := hsA.1
 have hlB := hsB.1
 have hS := Sep.init w
 refine went Tryd.func23 rfl (n := 39) rfl rfl ?_
 refine wseq (wreg (wl rfl (oassign (v := .slice none 0 0) rfl rfl evc ?_)))
 refine wl rfl (oassign (v := .int .i64 0) rfl rfl evc ?_)
 refine wnil (thenN (wseq (wreg (wl rfl (omove (v := .int .u32 (p : Int)) rfl rfl (ev rfl rfl) ?_)))))
 refine wl rfl (omove (v := .slice pa na ca) rfl rfl (ev rfl rfl) ?_)
 refine wl rfl (omove (v := .slice pb nb cb) rfl rfl (ev rfl rfl) ?_)
 refine wl rfl (obslice (ps := #[(0, .slice pa na ca), (1, .slice pb nb cb)]) (z := .slice none 0 0) [.slice pa na ca, .slice pb nb cb] hS rfl rfl Tryd.runUnderlying81 Tryd.sizeOf26 Tryd.zeroValue26 (parts2 (ev (v := .slice pa na ca) rfl rfl) (ev (v := .slice pb nb cb) rfl rfl)) rfl (by decide) (fill1_2s rfl rfl rfl) ?_)
 clear hS; intro g1 w2 hS
 refine wl rfl (ocall rfl rfl Tryd.call45 rfl (wxall2 (ht.at hS) (hS.blkAt 0 rfl) (hA.at hS) (hB.at hS) (hp) hp2 (hsA) (hsB) (hrA) (hrB)) (args2 (ev rfl rfl) (ev rfl rfl)) ?_)
 rintro _ w3 ⟨_, _, rfl, ⟨pL, cL, pX, cX, QX, pY, cY, QY, hQX, hQY, rfl, rfl⟩, hN⟩
 refine ⟨_, rfl, ?_⟩
 replace hS := hS.news hN; clear hN
 refine wl rfl (omove (v := .tuple #[.slice pL 2 cL, .int .i64 0]) rfl rfl (ev rfl rfl) ?_)
 refine wl rfl (oextract (vs := [.slice pL 2 cL, .int .i64 0]) (v := .slice pL 2 cL) rfl rfl (ev rfl rfl) rfl ?_)
 refine wl rfl (oextract (vs := [.slice pL 2 cL, .int .i64 0]) (v := .int .i64 0) rfl rfl (ev rfl rfl) rfl ?_)
 refine wl rfl (oassign (v := .slice pL 2 cL) rfl rfl (ev rfl rfl) ?_)
 refine wl rfl (oassign (v := .int .i64 0) rfl rfl (ev rfl rfl) ?_)
 refine wnil (thenN (wseq (wseq (wreg (wl rfl (omove (v := .int .i64 0) rfl rfl (ev rfl rfl) ?_))))))
 refine wl rfl (obin (u := .int .i64 0) (v := .int .i64 0) (z := .bool false) rfl rfl (ev rfl rfl) evc (bin_neq (by decide)) ?_)
 refine wnil (thenN ?_)
 refine wF (ev rfl rfl) ?_
 refine wskip (thenN (wseq (wseq ?_)))
 obtain ⟨gl4, hgl4⟩ := hS.lstPtr 2 rfl (by omega)
 refine wstage 10 [21, 22, 23, 24, 25, 26, 27, 28, 29, 30] [[], [0], [1, 0], [2, 0, 1], [], [4], [5, 4], [6, 4, 5], [7, 4, 5, 6], [3, 8, 0, 1, 2, 4, 5, 6, 7]] [[], [], [], [], [], [], [], [], [], []] [] [] (fun i9 => ([fun _ => Is (.slice pL 2 cL), fun _ => Is (.pointer (some ⟨gl4, 0, none⟩)), fun _ => Is (.pointer (some ⟨gl4, 2, none⟩)), fun _ => Is (.int .i64 (((colsM A : Nat) : Int))), fun _ => Is (.slice pL 2 cL), fun _ => Is (.pointer (some ⟨gl4, 3, none⟩)), fun _ => Is (.pointer (some ⟨gl4, 4, none⟩)), fun _ => Is (.slice pY B.length cY), fun _ => Is (.int .i64 (B.length : Int)), fun _ => Is (.bool false)] : List (List Value → Tell)).getD i9 (fun _ _ _ => False)) (heldNil) (fun d _ _ _ _ h => (by cases d <;> exact h)) (by kernel_rfl) (by kernel_rfl) (by kernel_rfl) hS ?_ ?_
 ·
  refine stepsCons rfl (fun Q f' w' ρ S ho hT hS hB => ?_) ?_
  ·exact .inl ⟨want_none rfl, omove (v := .slice pL 2 cL) rfl rfl (ev rfl (ho 8 rfl)) ⟨_, _, rfl, isI, New.same _⟩⟩
  refine stepsCons rfl (fun Q f' w' ρ S ho hT hS hB => ?_) ?_
  ·obtain ⟨hv0, hr0⟩ := (hT 0 21 rfl rfl : (Is (.slice pL 2 cL)) _ _)
   obtain hS := hS.flat1 hr0
   exact .inl ⟨want_none rfl, oindex (p := pL) (g := gl4) (off := 0) (m := 2) (k := 0) (j := 0) rfl rfl Tryd.runUnderlying73 Tryd.sizeOf63 (ev rfl hv0) (hgl4) evc (by omega) rfl ⟨_, _, rfl, isI, New.same _⟩⟩
  refine stepsCons rfl (fun Q f' w' ρ S ho hT hS hB => ?_) ?_
  ·obtain ⟨hv1, hr1⟩ := (hT 1 22 rfl rfl : (Is (.pointer (some ⟨gl4, 0, none⟩))) _ _)
   obtain hS := hS.flat1 hr1
   exact .inl ⟨want_none rfl, ofieldAddr (g := gl4) (off := 0) 2 rfl rfl (ev rfl hv1) Tryd.runUnderlying63 rfl Tryd.sizeOf3 rfl ⟨_, _, rfl, isI, New.same _⟩⟩
  refine stepsCons rfl (fun Q f' w' ρ S ho hT hS hB => ?_) ?_
  ·obtain ⟨hv2, hr2⟩ := (hT 2 23 rfl rfl : (Is (.pointer (some ⟨gl4, 2, none⟩))) _ _)
   obtain hS := hS.flat1 hr2
   exact .inl ⟨want_none rfl, oloadc (v := .int .i64 (((colsM A : Nat) : Int))) oneI rfl rfl (ev (v := .pointer (some ⟨gl4, 2, none⟩)) rfl hv2) (hS.lstAt 2 rfl hgl4 0 2 rfl rfl (by omega) rfl) ⟨_, _, rfl, isI, New.same _⟩⟩
  refine stepsCons rfl (fun Q f' w' ρ S ho hT hS hB => ?_) ?_
  ·exact .inl ⟨want_none rfl, omove (v := .slice pL 2 cL) rfl rfl (ev rfl (ho 8 rfl)) ⟨_, _, rfl, isI, New.same _⟩⟩
  refine stepsCons rfl (fun Q f' w' ρ S ho hT hS hB => ?_) ?_
  ·obtain ⟨hv4, hr4⟩ := (hT 4 25 rfl rfl : (Is (.slice pL 2 cL)) _ _)
   obtain hS := hS.flat1 hr4
   exact .inl ⟨want_none rfl, oindex (p := pL) (g := gl4) (off := 0) (m := 2) (k := 1) (j := 3) rfl rfl Tryd.runUnderlying73 Tryd.sizeOf63 (ev rfl hv4) (hgl4) evc (by omega) rfl ⟨_, _, rfl, isI, New.same _⟩⟩
  refine stepsCons rfl (fun Q f' w' ρ S ho hT hS hB => ?_) ?_
  ·obtain ⟨hv5, hr5⟩ := (hT 5 26 rfl rfl : (Is (.pointer (some ⟨gl4, 3, none⟩))) _ _)
   obtain hS := hS.flat1 hr5
   exact .inl ⟨want_none rfl, ofieldAddr (g := gl4) (off := 3) 4 rfl rfl (ev rfl hv5) Tryd.runUnderlying63 rfl Tryd.sizeOf25 rfl ⟨_, _, rfl, isI, New.same _⟩⟩
  refine stepsCons rfl (fun Q f' w' ρ S ho hT hS hB => ?_) ?_
  ·obtain ⟨hv6, hr6⟩ := (hT 6 27 rfl rfl : (Is (.pointer (some ⟨gl4, 4, none⟩))) _ _)
   obtain hS := hS.flat1 hr6
   exact .inl ⟨want_none rfl, oloadc (v := .slice pY B.length cY) (show One Tryd.prog 25 from ⟨Tryd.isAgg25, Tryd.sizeOf25⟩) rfl rfl (ev (v := .pointer (some ⟨gl4, 4, none⟩)) rfl hv6) (hS.lstAt 2 rfl hgl4 1 1 rfl rfl (by omega) rfl) ⟨_, _, rfl, isI, New.same _⟩⟩
  refine stepsCons rfl (fun Q f' w' ρ S ho hT hS hB => ?_) ?_
  ·obtain ⟨hv7, hr7⟩ := (hT 7 28 rfl rfl : (Is (.slice pY B.length cY)) _ _)
   obtain hS := hS.flat1 hr7
   exact .inl ⟨want_none rfl, olen rfl rfl rfl Tryd.runUnderlying25 (p := pY) (k := B.length) (m := cY) (ev rfl hv7) ⟨_, _, rfl, isI, New.same _⟩⟩
  refine stepsCons rfl (fun Q f' w' ρ S ho hT hS hB => ?_) ?_
  ·obtain ⟨hv3, hr3⟩ := (hT 3 24 rfl rfl : (Is (.int .i64 (((colsM A : Nat) : Int)))) _ _)
   obtain ⟨hv8, hr8⟩ := (hT 8 29 rfl rfl : (Is (.int .i64 (((B.length : Nat) : Int)))) _ _)
   obtain hS := hS.flat2 hr3 hr8
   exact .inl ⟨want_none rfl, obin (u := .int .i64 (((colsM A : Nat) : Int))) (v := .int .i64 (B.length : Int)) (z := .bool false) rfl rfl (ev rfl hv3) (ev rfl hv8) (bin_neq (neF (by omega))) ⟨_, _, rfl, isI, New.same _⟩⟩
  exact stepsNil
 ·
  intro vs ρ w5 f' hf hT hS
  obtain ⟨hv0, hr0⟩ := (hT 0 (by decide) : (Is (.slice pL 2 cL)) _ _)
  obtain ⟨hv1, hr1⟩ := (hT 1 (by decide) : (Is (.pointer (some ⟨gl4, 0, none⟩))) _ _)
  obtain ⟨hv2, hr2⟩ := (hT 2 (by decide) : (Is (.pointer (some ⟨gl4, 2, none⟩))) _ _)
  obtain ⟨hv3, hr3⟩ := (hT 3 (by decide) : (Is (.int .i64 (((colsM A : Nat) : Int)))) _ _)
  obtain ⟨hv4, hr4⟩ := (hT 4 (by decide) : (Is (.slice pL 2 cL)) _ _)
  obtain ⟨hv5, hr5⟩ := (hT 5 (by decide) : (Is (.pointer (some ⟨gl4, 3, none⟩))) _ _)
  obtain ⟨hv6, hr6⟩ := (hT 6 (by decide) : (Is (.pointer (some ⟨gl4, 4, none⟩))) _ _)
  obtain ⟨hv7, hr7⟩ := (hT 7 (by decide) : (Is (.slice pY B.length cY)) _ _)
  obtain ⟨hv8, hr8⟩ := (hT 8 (by decide) : (Is (.int .i64 (((B.length : Nat) : Int)))) _ _)
  obtain ⟨hv9, hr9⟩ := (hT 9 (by decide) : (Is (.bool false)) _ _)
  simp only [pool, if_true, hr0, hr1, hr2, hr3, hr4, hr5, hr6, hr7, hr8, hr9, List.nil_append, List.cons_append, List.append_nil] at hS
  simp only [layf, hv0, hv1, hv2, hv3, hv4, hv5, hv6, hv7, hv8, hv9] at hf
  subst hf; clear hT hv0 hv1 hv2 hv3 hv4 hv5 hv6 hv7 hv8 hv9 hr0 hr1 hr2 hr3 hr4 hr5 hr6 hr7 hr8 hr9
  refine wdone rfl ?_
  refine thenN ?_
  refine wF (ev rfl rfl) ?_
  refine wskip (thenN (wseq ?_))
  refine wstage 10 [31, 32, 33, 34, 35, 36, 37, 38, 6, 7] [[], [0], [1, 0], [], [3], [4, 3], [2, 5, 0, 1, 3, 4], [6, 0, 1, 2, 3, 4, 5], [6, 7, 0, 1, 2, 3, 4, 5], [0, 1, 2, 3, 4, 5, 6, 7, 8]] [[], [], [], [], [], [], [], [6], [6], []] [] [] (fun i9 => ([fun _ => Is (.slice pL 2 cL), fun _ => Is (.pointer (some ⟨gl4, 0, none⟩)), fun _ => Is (.agg #[.int .u64 (p : Int), .slice pX A.length cX, .int .i64 (((colsM A : Nat) : Int))]), fun _ => Is (.slice pL 2 cL), fun _ => Is (.pointer (some ⟨gl4, 3, none⟩)), fun _ => Is (.agg #[.int .u64 (p : Int), .slice pY B.length cY, .int .i64 (((colsM B : Nat) : Int))]), fun _ => MdT p A.length (colsM B) ((mulE p (modM p A) (modM p B) (colsM A))), fun us => Is ((vat (us.getD 0 undef) [1])), fun us => Is ((vat (us.getD 0 undef) [1])), fun _ => Is (.int .i64 0)] : List (List Value → Tell)).getD i9 (fun _ _ _ => False)) (heldNil) (fun d _ _ _ _ h => (by cases d <;> exact h)) (by kernel_rfl) (by kernel_rfl) (by kernel_rfl) hS ?_ ?_
  ·
   refine stepsCons rfl (fun Q f' w' ρ S ho hT hS hB => ?_) ?_
   ·exact .inl ⟨want_none rfl, omove (v := .slice pL 2 cL) rfl rfl (ev rfl (ho 8 rfl)) ⟨_, _, rfl, isI, New.same _⟩⟩
   refine stepsCons rfl (fun Q f' w' ρ S ho hT hS hB => ?_) ?_
   ·obtain ⟨hv0, hr0⟩ := (hT 0 31 rfl rfl : (Is (.slice pL 2 cL)) _ _)
    obtain hS := hS.flat1 hr0
    exact .inl ⟨want_none rfl, oindex (p := pL) (g := gl4) (off := 0) (m := 2) (k := 0) (j := 0) rfl rfl Tryd.runUnderlying73 Tryd.sizeOf63 (ev rfl hv0) (hgl4) evc (by omega) rfl ⟨_, _, rfl, isI, New.same _⟩⟩
   refine stepsCons rfl (fun Q f' w' ρ S ho hT hS hB => ?_) ?_
   ·obtain ⟨hv1, hr1⟩ := (hT 1 32 rfl rfl : (Is (.pointer (some ⟨gl4, 0, none⟩))) _ _)
    obtain hS := hS.flat1 hr1
    exact .inl ⟨want_none rfl, oloadA (vs := [.int .u64 (p : Int), .slice pX A.length cX, .int .i64 (((colsM A : Nat) : Int))]) (show Agg Tryd.prog 63 3 from ⟨Tryd.isAgg63, Tryd.sizeOf63⟩) rfl rfl (ev (v := .pointer (some ⟨gl4, 0, none⟩)) rfl hv1) (hS.lstAtA 2 rfl hgl4 0 rfl (by omega) rfl) rfl ⟨_, _, rfl, isI, New.same _⟩⟩
   refine stepsCons rfl (fun Q f' w' ρ S ho hT hS hB => ?_) ?_
   ·exact .inl ⟨want_none rfl, omove (v := .slice pL 2 cL) rfl rfl (ev rfl (ho 8 rfl)) ⟨_, _, rfl, isI, New.same _⟩⟩
   refine stepsCons rfl (fun Q f' w' ρ S ho hT hS hB => ?_) ?_
   ·obtain ⟨hv3, hr3⟩ := (hT 3 34 rfl rfl : (Is (.slice pL 2 cL)) _ _)
    obtain hS := hS.flat1 hr3
    exact .inl ⟨want_none rfl, oindex (p := pL) (g := gl4) (off := 0) (m := 2) (k := 1) (j := 3) rfl rfl Tryd.runUnderlying73 Tryd.sizeOf63 (ev rfl hv3) (hgl4) evc (by omega) rfl ⟨_, _, rfl, isI, New.same _⟩⟩
   refine stepsCons rfl (fun Q f' w' ρ S ho hT hS hB => ?_) ?_
   ·obtain ⟨hv4, hr4⟩ := (hT 4 35 rfl rfl : (Is (.pointer (some ⟨gl4, 3, none⟩))) _ _)
    obtain hS := hS.flat1 hr4
    exact .inl ⟨want_none rfl, oloadA (vs := [.int .u64 (p : Int), .slice pY B.length cY, .int .i64 (((colsM B : Nat) : Int))]) (show Agg Tryd.prog 63 3 from ⟨Tryd.isAgg63, Tryd.sizeOf63⟩) rfl rfl (ev (v := .pointer (some ⟨gl4, 3, none⟩)) rfl hv4) (hS.lstAtA 2 rfl hgl4 1 rfl (by omega) rfl) rfl ⟨_, _, rfl, isI, New.same _⟩⟩
   refine stepsCons rfl (fun Q f' w' ρ S ho hT hS hB => ?_) ?_
   ·obtain ⟨hv2, hr2⟩ := (hT 2 33 rfl rfl : (Is (.agg #[.int .u64 (((p : Nat) : Int)), .slice pX A.length cX, .int .i64 (((colsM A : Nat) : Int))])) _ _)
    obtain ⟨hv5, hr5⟩ := (hT 5 36 rfl rfl : (Is (.agg #[.int .u64 (((p : Nat) : Int)), .slice pY B.length cY, .int .i64 (((colsM B : Nat) : Int))])) _ _)
    obtain hS := hS.flat2 hr2 hr5
    exact .inl ⟨want_none rfl, ocall rfl rfl Tryd.call47 rfl ((show Calls _ _ _ _ (Ret (MdT p A.length (colsM B) (mulE p (modM p A) (modM p B) (colsM A))) _) from by have h9 := (hS.ms 0 rfl (by simp only [maxLen]; omega)); have h8 := (hS.ms 1 rfl (by simp only [maxLen]; omega)); rw [hQX] at h9; rw [hQY] at h8; exact wxtimes h9 h8 (hrA.shp hp0) (hrB.shp hp0) (by omega) (by omega) (by omega) hp0 hp2 (by omega))) (args2 (ev rfl hv2) (ev rfl hv5)) callN⟩
   refine stepsCons rfl (fun Q f' w' ρ S ho hT hS hB => ?_) ?_
   ·obtain ⟨pT, cT, QT, hQT, hv6, hr6⟩ := (hT 6 37 rfl rfl : (MdT p A.length (colsM B) ((mulE p (modM p A) (modM p B) (colsM A)))) _ _)
    obtain hS := hS.flat1 hr6
    have hQ : (.slice pT A.length cT : Value) = (fun (us : List Value) => ((vat (us.getD 0 undef) [1]) : Value)) [f' 37] := by show _ = ((vat (f' 37) [1]) : Value); rw [hv6]; rfl
    exact .inl ⟨want_none rfl, ofield (sz := 0) (vs := []) (fs := #[]) (fd := default) (cs := [.int .u64 (p : Int), .slice pT A.length cT, .int .i64 (((colsM B : Nat) : Int))]) (v := .slice pT A.length cT) rfl rfl (ev rfl hv6) (run_field_one Tryd.runUnderlying63 rfl (show One Tryd.prog 25 from ⟨Tryd.isAgg25, Tryd.sizeOf25⟩) rfl) ⟨_, _, rfl, ⟨hQ, rfl⟩, New.same _⟩⟩
   refine stepsCons rfl (fun Q f' w' ρ S ho hT hS hB => ?_) ?_
   ·obtain ⟨pT, cT, QT, hQT, hv6, hr6⟩ := (hT 6 37 rfl rfl : (MdT p A.length (colsM B) ((mulE p (modM p A) (modM p B) (colsM A)))) _ _)
    obtain ⟨hv7, hr7⟩ := (hT 7 38 rfl rfl : (fun (us : List Value) => Is ((vat (us.getD 0 undef) [1]))) [f' 37] _ _)
    replace hv7 : f' 38 = .slice pT A.length cT := hv7.trans (by show ((vat (f' 37) [1]) : Value) = _; rw [hv6]; rfl)
    obtain hS := hS.flat2 hr6 hr7
    have hQ : (.slice pT A.length cT : Value) = (fun (us : List Value) => ((vat (us.getD 0 undef) [1]) : Value)) [f' 37] := by show _ = ((vat (f' 37) [1]) : Value); rw [hv6]; rfl
    exact .inl ⟨want_none rfl, oassign (v := .slice pT A.length cT) rfl rfl (ev rfl hv7) ⟨_, _, rfl, ⟨hQ, rfl⟩, New.same _⟩⟩
   refine stepsCons rfl (fun Q f' w' ρ S ho hT hS hB => ?_) ?_
   ·exact .inl ⟨want_none rfl, oassign (v := .int .i64 0) rfl rfl evc ⟨_, _, rfl, isI, New.same _⟩⟩
   exact stepsNil
  ·
   intro vs ρ w6 f' hf hT hS
   obtain ⟨hv0, hr0⟩ := (hT 0 (by decide) : (Is (.slice pL 2 cL)) _ _)
   obtain ⟨hv1, hr1⟩ := (hT 1 (by decide) : (Is (.pointer (some ⟨gl4, 0, none⟩))) _ _)
   obtain ⟨hv2, hr2⟩ := (hT 2 (by decide) : (Is (.agg #[.int .u64 (((p : Nat) : Int)), .slice pX A.length cX, .int .i64 (((colsM A : Nat) : Int))])) _ _)
   obtain ⟨hv3, hr3⟩ := (hT 3 (by decide) : (Is (.slice pL 2 cL)) _ _)
   obtain ⟨hv4, hr4⟩ := (hT 4 (by decide) : (Is (.pointer (some ⟨gl4, 3, none⟩))) _ _)
   obtain ⟨hv5, hr5⟩ := (hT 5 (by decide) : (Is (.agg #[.int .u64 (((p : Nat) : Int)), .slice pY B.length cY, .int .i64 (((colsM B : Nat) : Int))])) _ _)
   obtain ⟨pT, cT, QT, hQT, hv6, hr6⟩ := (hT 6 (by decide) : (MdT p A.length (colsM B) ((mulE p (modM p A) (modM p B) (colsM A)))) _ _)
   obtain ⟨hv7, hr7⟩ := (hT 7 (by decide) : (fun (us : List Value) => Is ((vat (us.getD 0 undef) [1]))) [vs 6] _ _)
   replace hv7 : vs 7 = .slice pT A.length cT := hv7.trans (by show ((vat (vs 6) [1]) : Value) = _; rw [hv6]; rfl)
   obtain ⟨hv8, hr8⟩ := (hT 8 (by decide) : (fun (us : List Value) => Is ((vat (us.getD 0 undef) [1]))) [vs 6] _ _)
   replace hv8 : vs 8 = .slice pT A.length cT := hv8.trans (by show ((vat (vs 6) [1]) : Value) = _; rw [hv6]; rfl)
   obtain ⟨hv9, hr9⟩ := (hT 9 (by decide) : (Is (.int .i64 0)) _ _)
   simp only [pool, if_true, hr0, hr1, hr2, hr3, hr4, hr5, hr6, hr7, hr8, hr9, List.nil_append, List.cons_append, List.append_nil] at hS
   simp only [layf, hv0, hv1, hv2, hv3, hv4, hv5, hv6, hv7, hv8, hv9] at hf
   subst hf; clear hT hv0 hv1 hv2 hv3 hv4 hv5 hv6 hv7 hv8 hv9 hr0 hr1 hr2 hr3 hr4 hr5 hr6 hr7 hr8 hr9
   refine wdone rfl ?_
   refine thenN ?_
   refine wleave ?_
   refine wret2 Tryd.results23 (tellT (v := .slice pT A.length cT) rfl rfl) (tellT (v := .int .i64 0) rfl rfl) ?_
   exact ⟨_, _, rfl, ⟨pT, cT, QT, by rw [hQT]; unfold mulM; rw [modM_len], by rw [mulM, mkM_len, modM_len], by rw [mulM, mkM_len, modM_len]⟩, hS.newR 0 rfl rfl⟩
end Go.Proofs.YtndilfigdbenoaaDoor
