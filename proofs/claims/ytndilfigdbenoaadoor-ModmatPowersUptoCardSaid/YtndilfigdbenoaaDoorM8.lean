/-
  Contracts and lemmas, joined in one text.
-/
import Derived.Test.YtndilfigdbenoaaDoorM7
set_option linter.unusedVariables false
set_option linter.unusedSimpArgs false
/-
  What is appended: an empty slice; rows to rows.
-/
set_option maxRecDepth 100000
set_option maxHeartbeats 16000000
namespace Go.Proofs.YtndilfigdbenoaaDoor
open Go.RowKit
section
variable {P : Program} {o : Oper} {n : Nat} {f : Nat → Value} {w w0 : World} {R : List Res} {K : Act → World → Prop} {Q' : Exit → Act → World → Prop} {d : Nat}
theorem Sep.tl {r : Res} (h : Sep w0 (r :: R) w) : Sep w0 R w := ⟨h.below, fun s hs => h.holds s (List.mem_cons_of_mem _ hs), fun s hs => h.low s (List.mem_cons_of_mem _ hs), (List.pairwise_cons.1 h.apart).2⟩
end
end Go.Proofs.YtndilfigdbenoaaDoor
/-
  modmat's Reduce, Transpose; the law's own, ints; slices.Contains.
-/
namespace Go.Proofs.YtndilfigdbenoaaDoor
open Go.RowKit
def RdE (p : Nat) (M : List (List Nat)) (n : Nat) : Tell := fun v r => ∃ (px : Option Addr) (cx : Nat) (pv : Option Addr) (cv : Nat) (P : List Nat) (Q : List Rw), redTo p (modM p M) (colsM M) = (nums Q, P) ∧ v = .tuple #[.slice px n cx, .slice pv P.length cv, .int .i64 0] ∧ r = [.lst 52 1 px n cx (mmE Q), .lst 3 1 pv P.length cv (intE P)]
def SI (w : World) (p : Option Addr) (n : Nat) (P : List Nat) : Prop := P.length = n ∧ n ≤ maxLen ∧ ∀ i, i < n → ∃ b off, p = some ⟨b, off, none⟩ ∧ ∀ j v, [Value.int .i64 ((nd P i : Nat) : Int)][j]? = some v → w.cell? ⟨b, off + i * 1 + j, none⟩ = some v
theorem SI.on {w w' : World} {p : Option Addr} {n B : Nat} {P : List Nat} (h : SI w p n P) (hb : Below B w w') (hB : w.heap.size ≤ B) : SI w' p n P := by
  refine ⟨h.1, h.2.1, fun i hi => ?_⟩
  obtain ⟨b, off, hp, hc⟩ := h.2.2 i hi
  refine ⟨b, off, hp, fun j v hj => ?_⟩
  have h1 := hc j v hj
  have hlt := World.block_lt_of_cell? w _ h1
  exact (hb.cell (p := ⟨b, off + i * 1 + j, none⟩) (Nat.lt_of_lt_of_le hlt hB)).trans h1
theorem SI.at {w w' : World} {R : List Res} {p : Option Addr} {n : Nat} {P : List Nat} (h : SI w p n P) (hS : Sep w R w') : SI w' p n P := h.on hS.below (Nat.le_refl _)
theorem Sep.si {w0 w : World} {R : List Res} (hS : Sep w0 R w) (k : Nat) {p : Option Addr} {n c : Nat} {P : List Nat} (hk : R[k]? = some (.lst 3 1 p n c (intE P))) (hn : n ≤ maxLen) : SI w p n P := by
  have hl := hS.lstLen k hk
  have hl2 : P.length = n := by unfold intE at hl; rwa [List.length_map] at hl
  refine ⟨hl2, hn, fun i hi => ?_⟩
  obtain ⟨g, e1, e2, _⟩ := hS.lstCell k hk (i := i) (intE_get (by omega)) (by decide)
  exact ⟨g, 0, e1, fun j v hj => e2 j v hj⟩
def trM (C : Nat) (A : List (List Nat)) : List (List Nat) := mkM C A.length fun i k => nd (A.getD k []) i
theorem trM_len (C : Nat) (A : List (List Nat)) : (trM C A).length = C := mkM_len ..
theorem trM_shp {p C : Nat} {A : List (List Nat)} (h : Shp p C A) (hp : 0 < p) : Shp p A.length (trM C A) := mkM_shp fun i k _ _ => h.nd hp k i
end Go.Proofs.YtndilfigdbenoaaDoor
/-
  The document's Add of words, Dot; modmat's Kernel.
-/
namespace Go.Proofs.YtndilfigdbenoaaDoor
open Go.RowKit
def kerTo (p C : Nat) (R : List (List Nat)) (P : List Nat) (c : Nat) : Nat → List Nat
  | 0 => (List.replicate C 0).set c 1
  | i + 1 => (kerTo p C R P c i).set (nd P i) ((0 + p - nd (R.getD i []) c) % p)
def kerM (p C : Nat) (R : List (List Nat)) (P : List Nat) : Nat → List (List Nat)
  | 0 => []
  | c + 1 => if c ∈ P then kerM p C R P c else kerM p C R P c ++ [kerTo p C R P c P.length]
def kerP (p : Nat) (M : List (List Nat)) : List (List Nat) := kerM p (colsM M) (redTo p (modM p M) (colsM M)).1 (redTo p (modM p M) (colsM M)).2 (colsM M)
theorem wradd {a b n : Nat} {w : World} (ha : a < 4294967296) (hb : b < 4294967296) (hn : 0 < n) (hn2 : n < 4294967296) :
  Calls Tryd.prog 28 #[.int .u32 (a : Int), .int .u32 (b : Int), .int .u32 (n : Int)] w (Ret (Is (.int .u32 (((a + b) % n : Nat) : Int))) w) := by
 have hm := mod_lt32 (a := a + b) hn hn2
 have hS := Sep.init w
 refine went Tryd.func28 rfl (n := 16) rfl rfl ?_
 refine wseq (wreg (wl rfl (oassign (v := .int .u32 0) rfl rfl evc ?_)))
 refine wnil (thenN (wseq (wreg (wl rfl (omove (v := .int .u32 (a : Int)) rfl rfl (ev rfl rfl) ?_)))))
 refine wl rfl (oconvert (u := .int .u32 (a : Int)) (v := .int .u64 (a : Int)) rfl rfl (ev rfl rfl) (convert_int Tryd.runUnderlying27 Tryd.runUnderlying47 (wrap_u64 (by omega) (by omega))) ?_)
 refine wl rfl (omove (v := .int .u32 (b : Int)) rfl rfl (ev rfl rfl) ?_)
 refine wl rfl (oconvert (u := .int .u32 (b : Int)) (v := .int .u64 (b : Int)) rfl rfl (ev rfl rfl) (convert_int Tryd.runUnderlying27 Tryd.runUnderlying47 (wrap_u64 (by omega) (by omega))) ?_)
 refine wl rfl (obin (u := .int .u64 (a : Int)) (v := .int .u64 (b : Int)) (z := .int .u64 (((a + b : Nat) : Int))) rfl rfl (ev rfl rfl) (ev rfl rfl) (bin_add (wrap_u64 (by omega) (by omega))) ?_)
 refine wl rfl (omove (v := .int .u32 (n : Int)) rfl rfl (ev rfl rfl) ?_)
 refine wl rfl (oconvert (u := .int .u32 (n : Int)) (v := .int .u64 (n : Int)) rfl rfl (ev rfl rfl) (convert_int Tryd.runUnderlying27 Tryd.runUnderlying47 (wrap_u64 (by omega) (by omega))) ?_)
 refine wl rfl (obin (u := .int .u64 (((a + b : Nat) : Int))) (v := .int .u64 (n : Int)) (z := .int .u64 ((((a + b) % n : Nat) : Int))) rfl rfl (ev rfl rfl) (ev rfl rfl) (bin_rem (by omega) rfl) ?_)
 refine wl rfl (oconvert (u := .int .u64 ((((a + b) % n : Nat) : Int))) (v := .int .u32 ((((a + b) % n : Nat) : Int))) rfl rfl (ev rfl rfl) (convert_int Tryd.runUnderlying47 Tryd.runUnderlying27 (wrap_u32 (by omega) (by omega))) ?_)
 refine wl rfl (oassign (v := .int .u32 ((((a + b) % n : Nat) : Int))) rfl rfl (ev rfl rfl) ?_)
 refine wnil (thenN ?_)
 refine wleave ?_
 refine wret1 Tryd.results28 (tellT (v := .int .u32 ((((a + b) % n : Nat) : Int))) rfl rfl) ?_
 exact ⟨_, _, rfl, isI, hS.new0⟩
theorem wrdot {pa pb : Option Addr} {na ca nb cb p : Nat} {xa xb : List Nat} {w : World} (hA : Sl w pa na ca xa) (hB : Sl w pb nb cb xb) (hn : na ≤ nb) (hp0 : 0 < p) (hp2 : p < 4294967296) :
  Calls Tryd.prog 37 #[.slice pa na ca, .slice pb nb cb, .int .u32 ((p : Nat) : Int)] w (Ret (Is (.int .u32 ((dotp p (fun j => nd xa j * nd xb j) na : Nat) : Int))) w) := by
 have hla := hA.len
 have hlb := hB.len
 have hna := hA.cap
 have hle9 := hA.le
 simp only [maxLen] at hna
 have hS := Sep.init w
 refine went Tryd.func37 rfl (n := 29) rfl rfl ?_
 refine wseq (wreg (wl rfl (oassign (v := .int .u32 0) rfl rfl evc ?_)))
 refine wnil (thenN (wseq (wreg (wl rfl (oassign (v := .int .u32 0) rfl rfl evc ?_)))))
 refine wnil (thenN (wseq (wseq (wreg (wl rfl (omove (v := .slice pa na ca) rfl rfl (ev rfl rfl) ?_))))))
 refine wl rfl (olen rfl rfl rfl Tryd.runUnderlying52 (p := pa) (k := na) (m := ca) (ev rfl rfl) ?_)
 refine wl rfl (omove (v := .int .i64 0) rfl rfl evc ?_)
 refine wnil (thenN (wblock ?_))
 refine wloop (σ := Nat) (fun j a9 w' => ∃ (fb : Nat → Value) (acc : Nat), a9 = act 29 (sets fb [(0, .slice pa na ca), (1, .slice pb nb cb), (2, .int .u32 (p : Int)), (6, .int .u32 0), (7, .int .u32 (acc : Int)), (10, .int .i64 (na : Int)), (11, .int .i64 (j : Int))]) ∧ Sep w [] w' ∧ (j ≤ na) ∧ (acc = dotp p (fun j => nd xa j * nd xb j) j) ∧ (acc < p)) (fun j => na - j) (0) ⟨_, 0, act_sets (l := [(0, .slice pa na ca), (1, .slice pb nb cb), (2, .int .u32 (p : Int)), (6, .int .u32 0), (7, .int .u32 0), (10, .int .i64 (na : Int)), (11, .int .i64 0)]) ⟨rfl, rfl, rfl, rfl, rfl, rfl, rfl, trivial⟩, hS, Nat.zero_le _, rfl, hp0⟩ ?_
 clear hS; rintro j _ w1 ⟨fb, acc, rfl, hS, hj, hacc, hlt⟩
 refine wseq (wreg ?_)
 by_cases hjl : j < na
 ·
  refine wl rfl (obin (u := .int .i64 (j : Int)) (v := .int .i64 (na : Int)) (z := .bool true) rfl rfl (ev rfl rfl) (ev rfl rfl) (bin_lss (decide_eq_true (by omega))) ?_)
  refine wnil (thenN (wseq ?_))
  refine wT (ev rfl rfl) ?_
  refine wskip (thenN (wseq (wblock (wseq (wreg (wl rfl (omove (v := .int .i64 (j : Int)) rfl rfl (ev rfl rfl) ?_)))))))
  refine wl rfl (oassign (v := .int .i64 (j : Int)) rfl rfl (ev rfl rfl) ?_)
  refine wnil (thenN ?_)
  obtain ⟨bce, oce, hpce, hcce⟩ := hA.el (show j < na by omega)
  obtain ⟨bcf, ocf, hpcf, hccf⟩ := hB.el (show j < nb by omega)
  have h1 := hA.lims j (by omega)
  have h2 := hB.lims j (by omega)
  have hm9 := mod_lt32 (a := nd xa j * nd xb j) hp0 hp2
  refine wstage 13 [14, 15, 16, 17, 18, 19, 20, 21, 22, 23, 24, 25, 26] [[], [], [], [1, 2], [3, 1, 2], [], [], [5, 6], [7, 5, 6], [], [4, 8, 9, 1, 2, 3, 5, 6, 7], [], [0, 10, 11, 1, 2, 3, 4, 5, 6, 7, 8, 9]] [[], [], [], [], [], [], [], [], [], [], [], [], []] [] [] (fun i9 => ([fun _ => Is (.int .u32 (acc : Int)), fun _ => Is (.slice pa na ca), fun _ => Is (.int .i64 (j : Int)), fun _ => Is (.pointer (some ⟨bce, (oce + j * 1), none⟩)), fun _ => Is (.int .u32 (((nd xa j : Nat) : Int))), fun _ => Is (.slice pb nb cb), fun _ => Is (.int .i64 (j : Int)), fun _ => Is (.pointer (some ⟨bcf, (ocf + j * 1), none⟩)), fun _ => Is (.int .u32 (((nd xb j : Nat) : Int))), fun _ => Is (.int .u32 (p : Int)), fun _ => Is (.int .u32 ((((nd xa j) * (nd xb j) % p : Nat) : Int))), fun _ => Is (.int .u32 (p : Int)), fun _ => Is (.int .u32 ((((acc + ((nd xa j) * (nd xb j) % p)) % p : Nat) : Int)))] : List (List Value → Tell)).getD i9 (fun _ _ _ => False)) (heldNil) (fun d _ _ _ _ h => (by cases d <;> exact h)) (by kernel_rfl) (by kernel_rfl) (by kernel_rfl) hS ?_ ?_
  ·
   refine stepsCons rfl (fun Q f' w' ρ S ho hT hS hB => ?_) ?_
   ·exact .inl ⟨want_none rfl, omove (v := .int .u32 (acc : Int)) rfl rfl (ev rfl (ho 7 rfl)) ⟨_, _, rfl, isI, New.same _⟩⟩
   refine stepsCons rfl (fun Q f' w' ρ S ho hT hS hB => ?_) ?_
   ·exact .inl ⟨want_none rfl, omove (v := .slice pa na ca) rfl rfl (ev rfl (ho 0 rfl)) ⟨_, _, rfl, isI, New.same _⟩⟩
   refine stepsCons rfl (fun Q f' w' ρ S ho hT hS hB => ?_) ?_
   ·exact .inl ⟨want_none rfl, omove (v := .int .i64 (j : Int)) rfl rfl (ev rfl (ho 8 rfl)) ⟨_, _, rfl, isI, New.same _⟩⟩
   refine stepsCons rfl (fun Q f' w' ρ S ho hT hS hB => ?_) ?_
   ·obtain ⟨hv1, hr1⟩ := (hT 1 15 rfl rfl : (Is (.slice pa na ca)) _ _)
    obtain ⟨hv2, hr2⟩ := (hT 2 16 rfl rfl : (Is (.int .i64 (((j : Nat) : Int)))) _ _)
    obtain hS := hS.flat2 hr1 hr2
    exact .inl ⟨want_none rfl, oindex (p := pa) (g := bce) (off := oce) (m := na) (k := j) (j := (oce + j * 1)) rfl rfl Tryd.runUnderlying52 Tryd.sizeOf27 (ev rfl hv1) (hpce) (ev rfl hv2) (by omega) rfl ⟨_, _, rfl, isI, New.same _⟩⟩
   refine stepsCons rfl (fun Q f' w' ρ S ho hT hS hB => ?_) ?_
   ·obtain ⟨hv3, hr3⟩ := (hT 3 17 rfl rfl : (Is (.pointer (some ⟨bce, (oce + j * 1), none⟩))) _ _)
    obtain hS := hS.flat1 hr3
    exact .inl ⟨want_none rfl, oloadc (v := .int .u32 (((nd xa j : Nat) : Int))) one32 rfl rfl (ev (v := .pointer (some ⟨bce, (oce + j * 1), none⟩)) rfl hv3) (hS.cellAt (hcce 0 _ rfl)) ⟨_, _, rfl, isI, New.same _⟩⟩
   refine stepsCons rfl (fun Q f' w' ρ S ho hT hS hB => ?_) ?_
   ·exact .inl ⟨want_none rfl, omove (v := .slice pb nb cb) rfl rfl (ev rfl (ho 1 rfl)) ⟨_, _, rfl, isI, New.same _⟩⟩
   refine stepsCons rfl (fun Q f' w' ρ S ho hT hS hB => ?_) ?_
   ·exact .inl ⟨want_none rfl, omove (v := .int .i64 (j : Int)) rfl rfl (ev rfl (ho 8 rfl)) ⟨_, _, rfl, isI, New.same _⟩⟩
   refine stepsCons rfl (fun Q f' w' ρ S ho hT hS hB => ?_) ?_
   ·obtain ⟨hv5, hr5⟩ := (hT 5 19 rfl rfl : (Is (.slice pb nb cb)) _ _)
    obtain ⟨hv6, hr6⟩ := (hT 6 20 rfl rfl : (Is (.int .i64 (((j : Nat) : Int)))) _ _)
    obtain hS := hS.flat2 hr5 hr6
    exact .inl ⟨want_none rfl, oindex (p := pb) (g := bcf) (off := ocf) (m := nb) (k := j) (j := (ocf + j * 1)) rfl rfl Tryd.runUnderlying52 Tryd.sizeOf27 (ev rfl hv5) (hpcf) (ev rfl hv6) (by omega) rfl ⟨_, _, rfl, isI, New.same _⟩⟩
   refine stepsCons rfl (fun Q f' w' ρ S ho hT hS hB => ?_) ?_
   ·obtain ⟨hv7, hr7⟩ := (hT 7 21 rfl rfl : (Is (.pointer (some ⟨bcf, (ocf + j * 1), none⟩))) _ _)
    obtain hS := hS.flat1 hr7
    exact .inl ⟨want_none rfl, oloadc (v := .int .u32 (((nd xb j : Nat) : Int))) one32 rfl rfl (ev (v := .pointer (some ⟨bcf, (ocf + j * 1), none⟩)) rfl hv7) (hS.cellAt (hccf 0 _ rfl)) ⟨_, _, rfl, isI, New.same _⟩⟩
   refine stepsCons rfl (fun Q f' w' ρ S ho hT hS hB => ?_) ?_
   ·exact .inl ⟨want_none rfl, omove (v := .int .u32 (p : Int)) rfl rfl (ev rfl (ho 2 rfl)) ⟨_, _, rfl, isI, New.same _⟩⟩
   refine stepsCons rfl (fun Q f' w' ρ S ho hT hS hB => ?_) ?_
   ·obtain ⟨hv4, hr4⟩ := (hT 4 18 rfl rfl : (Is (.int .u32 (((nd xa j : Nat) : Int)))) _ _)
    obtain ⟨hv8, hr8⟩ := (hT 8 22 rfl rfl : (Is (.int .u32 (((nd xb j : Nat) : Int)))) _ _)
    obtain ⟨hv9, hr9⟩ := (hT 9 23 rfl rfl : (Is (.int .u32 (((p : Nat) : Int)))) _ _)
    obtain hS := hS.flat3 hr4 hr8 hr9
    exact .inl ⟨want_none rfl, ocall rfl rfl Tryd.call52 rfl (wsmul (a := (nd xa j)) (b := (nd xb j)) (n := p) (by omega) (by omega) hp0 hp2) (args3 (ev rfl hv4) (ev rfl hv8) (ev rfl hv9)) callN⟩
   refine stepsCons rfl (fun Q f' w' ρ S ho hT hS hB => ?_) ?_
   ·exact .inl ⟨want_none rfl, omove (v := .int .u32 (p : Int)) rfl rfl (ev rfl (ho 2 rfl)) ⟨_, _, rfl, isI, New.same _⟩⟩
   refine stepsCons rfl (fun Q f' w' ρ S ho hT hS hB => ?_) ?_
   ·obtain ⟨hv0, hr0⟩ := (hT 0 14 rfl rfl : (Is (.int .u32 (((acc : Nat) : Int)))) _ _)
    obtain ⟨hv10, hr10⟩ := (hT 10 24 rfl rfl : (Is (.int .u32 ((((nd xa j) * (nd xb j) % p : Nat) : Int)))) _ _)
    obtain ⟨hv11, hr11⟩ := (hT 11 25 rfl rfl : (Is (.int .u32 (((p : Nat) : Int)))) _ _)
    obtain hS := hS.flat3 hr0 hr10 hr11
    exact .inl ⟨want_none rfl, ocall rfl rfl Tryd.call28 rfl (wradd (a := acc) (b := ((nd xa j) * (nd xb j) % p)) (n := p) (by omega) (by omega) hp0 hp2) (args3 (ev rfl hv0) (ev rfl hv10) (ev rfl hv11)) callN⟩
   exact stepsNil
  ·
   intro vs ρ w2 f' hf hT hS
   obtain ⟨hv0, hr0⟩ := (hT 0 (by decide) : (Is (.int .u32 (((acc : Nat) : Int)))) _ _)
   obtain ⟨hv1, hr1⟩ := (hT 1 (by decide) : (Is (.slice pa na ca)) _ _)
   obtain ⟨hv2, hr2⟩ := (hT 2 (by decide) : (Is (.int .i64 (((j : Nat) : Int)))) _ _)
   obtain ⟨hv3, hr3⟩ := (hT 3 (by decide) : (Is (.pointer (some ⟨bce, (oce + j * 1), none⟩))) _ _)
   obtain ⟨hv4, hr4⟩ := (hT 4 (by decide) : (Is (.int .u32 (((nd xa j : Nat) : Int)))) _ _)
   obtain ⟨hv5, hr5⟩ := (hT 5 (by decide) : (Is (.slice pb nb cb)) _ _)
   obtain ⟨hv6, hr6⟩ := (hT 6 (by decide) : (Is (.int .i64 (((j : Nat) : Int)))) _ _)
   obtain ⟨hv7, hr7⟩ := (hT 7 (by decide) : (Is (.pointer (some ⟨bcf, (ocf + j * 1), none⟩))) _ _)
   obtain ⟨hv8, hr8⟩ := (hT 8 (by decide) : (Is (.int .u32 (((nd xb j : Nat) : Int)))) _ _)
   obtain ⟨hv9, hr9⟩ := (hT 9 (by decide) : (Is (.int .u32 (((p : Nat) : Int)))) _ _)
   obtain ⟨hv10, hr10⟩ := (hT 10 (by decide) : (Is (.int .u32 ((((nd xa j) * (nd xb j) % p : Nat) : Int)))) _ _)
   obtain ⟨hv11, hr11⟩ := (hT 11 (by decide) : (Is (.int .u32 (((p : Nat) : Int)))) _ _)
   obtain ⟨hv12, hr12⟩ := (hT 12 (by decide) : (Is (.int .u32 ((((acc + ((nd xa j) * (nd xb j) % p)) % p : Nat) : Int)))) _ _)
   simp only [pool, if_true, hr0, hr1, hr2, hr3, hr4, hr5, hr6, hr7, hr8, hr9, hr10, hr11, hr12, List.nil_append, List.cons_append, List.append_nil] at hS
   simp only [layf, hv0, hv1, hv2, hv3, hv4, hv5, hv6, hv7, hv8, hv9, hv10, hv11, hv12] at hf
   subst hf; clear hT hv0 hv1 hv2 hv3 hv4 hv5 hv6 hv7 hv8 hv9 hv10 hv11 hv12 hr0 hr1 hr2 hr3 hr4 hr5 hr6 hr7 hr8 hr9 hr10 hr11 hr12
   refine wlate 13 rfl (by kernel_rfl) (oassign (v := .int .u32 ((((acc + ((nd xa j) * (nd xb j) % p)) % p : Nat) : Int))) rfl rfl (ev rfl rfl) ?_)
   refine ⟨heldNil, ?_⟩
   refine wdone rfl ?_
   refine blkN (thenN (wreg (wl rfl (obin (u := .int .i64 (j : Int)) (v := .int .i64 1) (z := .int .i64 (((j + 1 : Nat) : Int))) rfl rfl (ev rfl rfl) evc (bin_add (wrap_i64 (by omega) (by omega))) ?_))))
   refine wl rfl (omove (v := .int .i64 (((j + 1 : Nat) : Int))) rfl rfl (ev rfl rfl) ?_)
   refine wnil (thenN ?_)
   exact ⟨(j + 1), ⟨_, _, act_sets (l := [(0, .slice pa na ca), (1, .slice pb nb cb), (2, .int .u32 (p : Int)), (6, .int .u32 0), (7, .int .u32 ((((acc + ((nd xa j) * (nd xb j) % p)) % p : Nat) : Int))), (10, .int .i64 (na : Int)), (11, .int .i64 (((j + 1 : Nat) : Int)))]) ⟨rfl, rfl, rfl, rfl, rfl, rfl, rfl, trivial⟩, hS.pick [] (by decide) rfl, by omega, by rw [dotp, ← hacc], Nat.mod_lt _ hp0⟩, by omega⟩
 ·
  refine wl rfl (obin (u := .int .i64 (j : Int)) (v := .int .i64 (na : Int)) (z := .bool false) rfl rfl (ev rfl rfl) (ev rfl rfl) (bin_lss (decide_eq_false (by omega))) ?_)
  refine wnil (thenN (wseq ?_))
  refine wF (ev rfl rfl) ?_
  refine wexit ?_
  refine thenE ?_
  refine thenE ?_
  refine blkE ?_
  refine thenN (wseq (wreg (wl rfl (omove (v := .int .u32 (acc : Int)) rfl rfl (ev rfl rfl) ?_))))
  refine wl rfl (oassign (v := .int .u32 (acc : Int)) rfl rfl (ev rfl rfl) ?_)
  refine wnil (thenN ?_)
  refine wleave ?_
  have hjC : j = na := by omega
  refine wret1 Tryd.results37 (tellT (v := .int .u32 (acc : Int)) rfl rfl) ?_
  exact ⟨_, _, rfl, ⟨by rw [hacc, hjC], rfl⟩, hS.new0⟩
end Go.Proofs.YtndilfigdbenoaaDoor
