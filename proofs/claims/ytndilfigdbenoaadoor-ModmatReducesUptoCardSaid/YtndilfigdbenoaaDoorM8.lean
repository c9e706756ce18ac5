/-
  Contracts and lemmas, joined in one text.
-/
import Derived.Test.YtndilfigdbenoaaDoorM7
set_option linter.unusedVariables false
set_option linter.unusedSimpArgs false
/-
  What is appended: an empty slice; rows to rows.
-/
set_option maxRecDepth 100000
set_option maxHeartbeats 16000000
namespace Go.Proofs.YtndilfigdbenoaaDoor
open Go.RowKit
section
variable {P : Program} {o : Oper} {n : Nat} {f : Nat → Value} {w w0 : World} {R : List Res} {K : Act → World → Prop} {Q' : Exit → Act → World → Prop} {d : Nat}
theorem run_append_zero {t ty e : TypeId} {i : TypeInfo} (ht : P.underlying t = some (.slice e)) (hi : P.info? e = some i) {p q : Option Addr} {m c c2 : Nat} (hle : m ≤ c) :
  (Builtin.append_ #[t, t] ty #[.slice p m c, .slice q 0 c2]).run P w = .ok (.slice p m c) w := by
 have hf : (Builtin.firstCells i.size 0 (.slice q 0 c2)).run P w = .ok #[] w := by
  cases q with
  | none => rfl
  | some a => exact run_firstCells_some (P := P) w i.size 0 a 0 c2 [] (by simp) (by simp)
 cases p <;> simp [Builtin.append_, run_underlying ht, sizeOf, typeInfo, hi, Builtin.lenOf, hle, hf, storeCells]
theorem oappendOwn {t : TypeId} {x y : Operand} {g m c2 : Nat} {q : Option Addr} {xs : List Nat} (hS : Sep w0 (.blk g [] 27 :: R) w) (hop : o.op = .call { callee := .builtin .append, args := #[x, y], argTypes := #[t, t] }) (ho : o.dst = some d) (ht : P.underlying t = some (.slice 27)) (hi : (P.info? 27).map (fun i => (i.zero, i.size, i.bytes)) = some (some (.int .u32 0), 1, 4))
  (hx : (act n f).eval x = .slice (some ⟨g, 0, none⟩) 0 0) (hy : (act n f).eval y = .slice q m c2) (hs : Sl w q m c2 xs) (hm : m ≤ 1073741824)
  (hK : ∀ p' c' w', Sep w0 (.rowm p' m c' xs :: R) w' → K (act n (upd f d (.slice p' m c'))) w') : OW P o (act n f) w K Q' := by
 rcases Nat.eq_zero_or_pos m with h0 | h0
 ·subst h0
  obtain rfl : xs = [] := List.eq_nil_of_length_eq_zero hs.len
  rcases hi' : P.info? 27 with _ | i
  ·rw [hi'] at hi; cases hi
  have hS' := hS.ofBlk (sz := 1) (m := 0) (cap := 0) (Nat.le_refl _) (Nat.zero_le _) (by simp)
  have h1 : Sep w0 (.rowm (some ⟨g, 0, none⟩) 0 0 [] :: R) w := Sep.ownRow (xs := []) (by simpa using hS') rfl (fun i hi => by simp at hi)
  refine ⟨?_⟩
  have := hK _ _ _ h1
  unfold Oper.wp execOp
  simp only [hop, resolve, invoke, builtin, Sem.run_bind, Sem.run_pure, Result.andThen_ok, List.map_toArray, List.map_cons, List.map_nil, hx, hy, run_append_zero ht hi' (Nat.le_refl _)]
  show K ((act n f).put o.dst _) w
  rw [ho, act_put]
  exact this
 ·obtain ⟨b, off, rfl, _⟩ := hs.cell 0 h0
  refine oappend0 (z := .int .u32 0) (sz := 1) (by' := 4) (xs.map fun x : Nat => Value.int .u32 (x : Int)) hS hop ho ht hi rfl (by decide) hx hy (by rw [List.length_map, hs.len, Nat.mul_one]) (fun j u hu => ?_) (fun u hu => by obtain ⟨x, _, rfl⟩ := List.mem_map.1 hu; rfl) (by omega) (by omega) fun p' c' w' h => hK p' c' w' (h.ownRow hs.len hs.lims)
  have hj : j < m := by have := (List.getElem?_eq_some_iff.1 hu).1; rw [List.length_map, hs.len] at this; exact this
  obtain ⟨b', off', hp, hc⟩ := hs.cell j hj
  simp only [Option.some.injEq, Addr.mk.injEq, and_true] at hp
  obtain ⟨rfl, rfl⟩ := hp
  rw [Addr.add_mid, hc]
  rw [List.getElem?_map, List.getElem?_eq_getElem (by rw [hs.len]; exact hj)] at hu
  rw [nd_get (by rw [hs.len]; exact hj)]
  exact hu
theorem Sep.tl {r : Res} (h : Sep w0 (r :: R) w) : Sep w0 R w := ⟨h.below, fun s hs => h.holds s (List.mem_cons_of_mem _ hs), fun s hs => h.low s (List.mem_cons_of_mem _ hs), (List.pairwise_cons.1 h.apart).2⟩
end
end Go.Proofs.YtndilfigdbenoaaDoor
/-
  modmat's Reduce, Transpose; the law's own, ints; slices.Contains.
-/
namespace Go.Proofs.YtndilfigdbenoaaDoor
open Go.RowKit
def RdE (p : Nat) (M : List (List Nat)) (n : Nat) : Tell := fun v r => ∃ (px : Option Addr) (cx : Nat) (pv : Option Addr) (cv : Nat) (P : List Nat) (Q : List Rw), redTo p (modM p M) (colsM M) = (nums Q, P) ∧ v = .tuple #[.slice px n cx, .slice pv P.length cv, .int .i64 0] ∧ r = [.lst 52 1 px n cx (mmE Q), .lst 3 1 pv P.length cv (intE P)]
def SI (w : World) (p : Option Addr) (n : Nat) (P : List Nat) : Prop := P.length = n ∧ n ≤ maxLen ∧ ∀ i, i < n → ∃ b off, p = some ⟨b, off, none⟩ ∧ ∀ j v, [Value.int .i64 ((nd P i : Nat) : Int)][j]? = some v → w.cell? ⟨b, off + i * 1 + j, none⟩ = some v
theorem SI.on {w w' : World} {p : Option Addr} {n B : Nat} {P : List Nat} (h : SI w p n P) (hb : Below B w w') (hB : w.heap.size ≤ B) : SI w' p n P := by
  refine ⟨h.1, h.2.1, fun i hi => ?_⟩
  obtain ⟨b, off, hp, hc⟩ := h.2.2 i hi
  refine ⟨b, off, hp, fun j v hj => ?_⟩
  have h1 := hc j v hj
  have hlt := World.block_lt_of_cell? w _ h1
  exact (hb.cell (p := ⟨b, off + i * 1 + j, none⟩) (Nat.lt_of_lt_of_le hlt hB)).trans h1
theorem SI.at {w w' : World} {R : List Res} {p : Option Addr} {n : Nat} {P : List Nat} (h : SI w p n P) (hS : Sep w R w') : SI w' p n P := h.on hS.below (Nat.le_refl _)
theorem Sep.si {w0 w : World} {R : List Res} (hS : Sep w0 R w) (k : Nat) {p : Option Addr} {n c : Nat} {P : List Nat} (hk : R[k]? = some (.lst 3 1 p n c (intE P))) (hn : n ≤ maxLen) : SI w p n P := by
  have hl := hS.lstLen k hk
  have hl2 : P.length = n := by unfold intE at hl; rwa [List.length_map] at hl
  refine ⟨hl2, hn, fun i hi => ?_⟩
  obtain ⟨g, e1, e2, _⟩ := hS.lstCell k hk (i := i) (intE_get (by omega)) (by decide)
  exact ⟨g, 0, e1, fun j v hj => e2 j v hj⟩
def trM (C : Nat) (A : List (List Nat)) : List (List Nat) := mkM C A.length fun i k => nd (A.getD k []) i
theorem wxreduceA40 {pm : Option Addr} {nm cm p : Nat} {M : List (List Nat)} {w : World} (ht : Tb w) (hm : MS w pm nm M) (hp2 : p < 4294967296) (hs : SmallM M) (hp : ¬ MR.Pr p) :
  Calls Tryd.prog 17 #[.slice pm nm cm, .int .u32 ((p : Nat) : Int)] w (Ret (Is (.tuple #[.slice none 0 0, .slice none 0 0, .int .i64 40])) w) := by
 have hS := Sep.init w
 refine went Tryd.func17 rfl (n := 37) rfl rfl ?_
 refine wseq (wreg (wl rfl (oassign (v := .slice none 0 0) rfl rfl evc ?_)))
 refine wl rfl (oassign (v := .slice none 0 0) rfl rfl evc ?_)
 refine wl rfl (oassign (v := .int .i64 0) rfl rfl evc ?_)
 refine wnil (thenN (wseq (wreg (wl rfl (omove (v := .int .u32 (p : Int)) rfl rfl (ev rfl rfl) ?_)))))
 refine wl rfl (omove (v := .slice pm nm cm) rfl rfl (ev rfl rfl) ?_)
 refine wl rfl (obslice (ps := #[(0, .slice pm nm cm)]) (z := .slice none 0 0) [.slice pm nm cm] hS rfl rfl Tryd.runUnderlying81 Tryd.sizeOf26 Tryd.zeroValue26 (parts1 (ev (v := .slice pm nm cm) rfl rfl)) rfl (by decide) (fill1_1s rfl rfl) ?_)
 clear hS; intro g1 w2 hS
 refine wl rfl (ocall rfl rfl Tryd.call45 rfl (wxall40 (ht.at hS) (LMS.one (hS.blkAt 0 rfl) (hm.at hS)) hp2 (by omega) (fun N h => by rw [List.mem_singleton.1 h]; exact hs) (hp)) (args2 (ev rfl rfl) (ev rfl rfl)) ?_)
 rintro _ w3 ⟨_, _, rfl, ⟨rfl, rfl⟩, hN⟩
 refine ⟨_, rfl, ?_⟩
 replace hS := hS.news hN; clear hN
 refine wl rfl (omove (v := .tuple #[.slice none 0 0, .int .i64 40]) rfl rfl (ev rfl rfl) ?_)
 refine wl rfl (oextract (vs := [.slice none 0 0, .int .i64 40]) (v := .slice none 0 0) rfl rfl (ev rfl rfl) rfl ?_)
 refine wl rfl (oextract (vs := [.slice none 0 0, .int .i64 40]) (v := .int .i64 40) rfl rfl (ev rfl rfl) rfl ?_)
 refine wl rfl (oassign (v := .slice none 0 0) rfl rfl (ev rfl rfl) ?_)
 refine wl rfl (oassign (v := .int .i64 40) rfl rfl (ev rfl rfl) ?_)
 refine wnil (thenN (wseq (wseq (wreg (wl rfl (omove (v := .int .i64 40) rfl rfl (ev rfl rfl) ?_))))))
 refine wl rfl (obin (u := .int .i64 40) (v := .int .i64 0) (z := .bool true) rfl rfl (ev rfl rfl) evc (bin_neq (by decide)) ?_)
 refine wnil (thenN ?_)
 refine wT (ev rfl rfl) ?_
 refine wseq (wreg (wl rfl (omove (v := .int .i64 40) rfl rfl (ev rfl rfl) ?_)))
 refine wl rfl (oassign (v := .slice none 0 0) rfl rfl evc ?_)
 refine wl rfl (oassign (v := .slice none 0 0) rfl rfl evc ?_)
 refine wl rfl (oassign (v := .int .i64 40) rfl rfl (ev rfl rfl) ?_)
 refine wnil (thenN ?_)
 refine wleave ?_
 refine thenR ?_
 refine wret3 Tryd.results17 (tellT (v := .slice none 0 0) rfl rfl) (tellT (v := .slice none 0 0) rfl rfl) (tellT (v := .int .i64 40) rfl rfl) ?_
 exact ⟨_, _, rfl, isI, hS.new0⟩
theorem wxreduceA2 {pm : Option Addr} {nm cm p : Nat} {M : List (List Nat)} {w : World} (ht : Tb w) (hm : MS w pm nm M) (hp2 : p < 4294967296) (hs : SmallM M) (hp : MR.Pr p) (hr : ¬ RectM M) :
  Calls Tryd.prog 17 #[.slice pm nm cm, .int .u32 ((p : Nat) : Int)] w (Ret (Is (.tuple #[.slice none 0 0, .slice none 0 0, .int .i64 2])) w) := by
 have hS := Sep.init w
 refine went Tryd.func17 rfl (n := 37) rfl rfl ?_
 refine wseq (wreg (wl rfl (oassign (v := .slice none 0 0) rfl rfl evc ?_)))
 refine wl rfl (oassign (v := .slice none 0 0) rfl rfl evc ?_)
 refine wl rfl (oassign (v := .int .i64 0) rfl rfl evc ?_)
 refine wnil (thenN (wseq (wreg (wl rfl (omove (v := .int .u32 (p : Int)) rfl rfl (ev rfl rfl) ?_)))))
 refine wl rfl (omove (v := .slice pm nm cm) rfl rfl (ev rfl rfl) ?_)
 refine wl rfl (obslice (ps := #[(0, .slice pm nm cm)]) (z := .slice none 0 0) [.slice pm nm cm] hS rfl rfl Tryd.runUnderlying81 Tryd.sizeOf26 Tryd.zeroValue26 (parts1 (ev (v := .slice pm nm cm) rfl rfl)) rfl (by decide) (fill1_1s rfl rfl) ?_)
 clear hS; intro g1 w2 hS
 refine wl rfl (ocall rfl rfl Tryd.call45 rfl (wxallE (ht.at hS) (LMS.one (hS.blkAt 0 rfl) (hm.at hS)) hp2 (by omega) (fun N h => by rw [List.mem_singleton.1 h]; exact hs) (hp) (fun h => hr (h M (by simp)))) (args2 (ev rfl rfl) (ev rfl rfl)) ?_)
 rintro _ w3 ⟨_, _, rfl, ⟨rfl, rfl⟩, hN⟩
 refine ⟨_, rfl, ?_⟩
 replace hS := hS.news hN; clear hN
 refine wl rfl (omove (v := .tuple #[.slice none 0 0, .int .i64 2]) rfl rfl (ev rfl rfl) ?_)
 refine wl rfl (oextract (vs := [.slice none 0 0, .int .i64 2]) (v := .slice none 0 0) rfl rfl (ev rfl rfl) rfl ?_)
 refine wl rfl (oextract (vs := [.slice none 0 0, .int .i64 2]) (v := .int .i64 2) rfl rfl (ev rfl rfl) rfl ?_)
 refine wl rfl (oassign (v := .slice none 0 0) rfl rfl (ev rfl rfl) ?_)
 refine wl rfl (oassign (v := .int .i64 2) rfl rfl (ev rfl rfl) ?_)
 refine wnil (thenN (wseq (wseq (wreg (wl rfl (omove (v := .int .i64 2) rfl rfl (ev rfl rfl) ?_))))))
 refine wl rfl (obin (u := .int .i64 2) (v := .int .i64 0) (z := .bool true) rfl rfl (ev rfl rfl) evc (bin_neq (by decide)) ?_)
 refine wnil (thenN ?_)
 refine wT (ev rfl rfl) ?_
 refine wseq (wreg (wl rfl (omove (v := .int .i64 2) rfl rfl (ev rfl rfl) ?_)))
 refine wl rfl (oassign (v := .slice none 0 0) rfl rfl evc ?_)
 refine wl rfl (oassign (v := .slice none 0 0) rfl rfl evc ?_)
 refine wl rfl (oassign (v := .int .i64 2) rfl rfl (ev rfl rfl) ?_)
 refine wnil (thenN ?_)
 refine wleave ?_
 refine thenR ?_
 refine wret3 Tryd.results17 (tellT (v := .slice none 0 0) rfl rfl) (tellT (v := .slice none 0 0) rfl rfl) (tellT (v := .int .i64 2) rfl rfl) ?_
 exact ⟨_, _, rfl, isI, hS.new0⟩
theorem wxreduceA {pm : Option Addr} {nm cm p : Nat} {M : List (List Nat)} {w : World} (ht : Tb w) (hm : MS w pm nm M) (hp2 : p < 4294967296) (hs : SmallM M) (hp : MR.Pr p) (hr : RectM M) :
  Calls Tryd.prog 17 #[.slice pm nm cm, .int .u32 ((p : Nat) : Int)] w (Ret (RdE p M M.length) w) := by
 have hcb := hs.cols
 have hnb := hs.1
 have hp1 := hp.1
 have hp0 : 0 < p := by omega
 have hshM := hr.shp hp0
 have hS := Sep.init w
 refine went Tryd.func17 rfl (n := 37) rfl rfl ?_
 refine wseq (wreg (wl rfl (oassign (v := .slice none 0 0) rfl rfl evc ?_)))
 refine wl rfl (oassign (v := .slice none 0 0) rfl rfl evc ?_)
 refine wl rfl (oassign (v := .int .i64 0) rfl rfl evc ?_)
 refine wnil (thenN (wseq (wreg (wl rfl (omove (v := .int .u32 (p : Int)) rfl rfl (ev rfl rfl) ?_)))))
 refine wl rfl (omove (v := .slice pm nm cm) rfl rfl (ev rfl rfl) ?_)
 refine wl rfl (obslice (ps := #[(0, .slice pm nm cm)]) (z := .slice none 0 0) [.slice pm nm cm] hS rfl rfl Tryd.runUnderlying81 Tryd.sizeOf26 Tryd.zeroValue26 (parts1 (ev (v := .slice pm nm cm) rfl rfl)) rfl (by decide) (fill1_1s rfl rfl) ?_)
 clear hS; intro g1 w2 hS
 refine wl rfl (ocall rfl rfl Tryd.call45 rfl (wxall1 (ht.at hS) (hS.blkAt 0 rfl) (hm.at hS) (hp) hp2 (hs) (hr)) (args2 (ev rfl rfl) (ev rfl rfl)) ?_)
 rintro _ w3 ⟨_, _, rfl, ⟨pL, cL, pX, cX, QX, hQX, rfl, rfl⟩, hN⟩
 refine ⟨_, rfl, ?_⟩
 replace hS := hS.news hN; clear hN
 refine wl rfl (omove (v := .tuple #[.slice pL 1 cL, .int .i64 0]) rfl rfl (ev rfl rfl) ?_)
 refine wl rfl (oextract (vs := [.slice pL 1 cL, .int .i64 0]) (v := .slice pL 1 cL) rfl rfl (ev rfl rfl) rfl ?_)
 refine wl rfl (oextract (vs := [.slice pL 1 cL, .int .i64 0]) (v := .int .i64 0) rfl rfl (ev rfl rfl) rfl ?_)
 refine wl rfl (oassign (v := .slice pL 1 cL) rfl rfl (ev rfl rfl) ?_)
 refine wl rfl (oassign (v := .int .i64 0) rfl rfl (ev rfl rfl) ?_)
 refine wnil (thenN (wseq (wseq (wreg (wl rfl (omove (v := .int .i64 0) rfl rfl (ev rfl rfl) ?_))))))
 refine wl rfl (obin (u := .int .i64 0) (v := .int .i64 0) (z := .bool false) rfl rfl (ev rfl rfl) evc (bin_neq (by decide)) ?_)
 refine wnil (thenN ?_)
 refine wF (ev rfl rfl) ?_
 refine wskip (thenN (wseq ?_))
 obtain ⟨gl4, hgl4⟩ := hS.lstPtr 1 rfl (by omega)
 refine wstage 7 [22, 23, 24, 25, 26, 27, 28] [[], [0], [1, 0], [], [3], [4, 3], [5, 3, 4]] [[], [], [], [], [], [], []] [] [] (fun i9 => ([fun _ => Is (.slice pL 1 cL), fun _ => Is (.pointer (some ⟨gl4, 0, none⟩)), fun _ => Is (.agg #[.int .u64 (p : Int), .slice pX M.length cX, .int .i64 (((colsM M : Nat) : Int))]), fun _ => Is (.slice pL 1 cL), fun _ => Is (.pointer (some ⟨gl4, 0, none⟩)), fun _ => Is (.pointer (some ⟨gl4, 2, none⟩)), fun _ => Is (.int .i64 (((colsM M : Nat) : Int)))] : List (List Value → Tell)).getD i9 (fun _ _ _ => False)) (heldNil) (fun d _ _ _ _ h => (by cases d <;> exact h)) (by kernel_rfl) (by kernel_rfl) (by kernel_rfl) hS ?_ ?_
 ·
  refine stepsCons rfl (fun Q f' w' ρ S ho hT hS hB => ?_) ?_
  ·exact .inl ⟨want_none rfl, omove (v := .slice pL 1 cL) rfl rfl (ev rfl (ho 7 rfl)) ⟨_, _, rfl, isI, New.same _⟩⟩
  refine stepsCons rfl (fun Q f' w' ρ S ho hT hS hB => ?_) ?_
  ·obtain ⟨hv0, hr0⟩ := (hT 0 22 rfl rfl : (Is (.slice pL 1 cL)) _ _)
   obtain hS := hS.flat1 hr0
   exact .inl ⟨want_none rfl, oindex (p := pL) (g := gl4) (off := 0) (m := 1) (k := 0) (j := 0) rfl rfl Tryd.runUnderlying73 Tryd.sizeOf63 (ev rfl hv0) (hgl4) evc (by omega) rfl ⟨_, _, rfl, isI, New.same _⟩⟩
  refine stepsCons rfl (fun Q f' w' ρ S ho hT hS hB => ?_) ?_
  ·obtain ⟨hv1, hr1⟩ := (hT 1 23 rfl rfl : (Is (.pointer (some ⟨gl4, 0, none⟩))) _ _)
   obtain hS := hS.flat1 hr1
   exact .inl ⟨want_none rfl, oloadA (vs := [.int .u64 (p : Int), .slice pX M.length cX, .int .i64 (((colsM M : Nat) : Int))]) (show Agg Tryd.prog 63 3 from ⟨Tryd.isAgg63, Tryd.sizeOf63⟩) rfl rfl (ev (v := .pointer (some ⟨gl4, 0, none⟩)) rfl hv1) (hS.lstAtA 1 rfl hgl4 0 rfl (by omega) rfl) rfl ⟨_, _, rfl, isI, New.same _⟩⟩
  refine stepsCons rfl (fun Q f' w' ρ S ho hT hS hB => ?_) ?_
  ·exact .inl ⟨want_none rfl, omove (v := .slice pL 1 cL) rfl rfl (ev rfl (ho 7 rfl)) ⟨_, _, rfl, isI, New.same _⟩⟩
  refine stepsCons rfl (fun Q f' w' ρ S ho hT hS hB => ?_) ?_
  ·obtain ⟨hv3, hr3⟩ := (hT 3 25 rfl rfl : (Is (.slice pL 1 cL)) _ _)
   obtain hS := hS.flat1 hr3
   exact .inl ⟨want_none rfl, oindex (p := pL) (g := gl4) (off := 0) (m := 1) (k := 0) (j := 0) rfl rfl Tryd.runUnderlying73 Tryd.sizeOf63 (ev rfl hv3) (hgl4) evc (by omega) rfl ⟨_, _, rfl, isI, New.same _⟩⟩
  refine stepsCons rfl (fun Q f' w' ρ S ho hT hS hB => ?_) ?_
  ·obtain ⟨hv4, hr4⟩ := (hT 4 26 rfl rfl : (Is (.pointer (some ⟨gl4, 0, none⟩))) _ _)
   obtain hS := hS.flat1 hr4
   exact .inl ⟨want_none rfl, ofieldAddr (g := gl4) (off := 0) 2 rfl rfl (ev rfl hv4) Tryd.runUnderlying63 rfl Tryd.sizeOf3 rfl ⟨_, _, rfl, isI, New.same _⟩⟩
  refine stepsCons rfl (fun Q f' w' ρ S ho hT hS hB => ?_) ?_
  ·obtain ⟨hv5, hr5⟩ := (hT 5 27 rfl rfl : (Is (.pointer (some ⟨gl4, 2, none⟩))) _ _)
   obtain hS := hS.flat1 hr5
   exact .inl ⟨want_none rfl, oloadc (v := .int .i64 (((colsM M : Nat) : Int))) oneI rfl rfl (ev (v := .pointer (some ⟨gl4, 2, none⟩)) rfl hv5) (hS.lstAt 1 rfl hgl4 0 2 rfl rfl (by omega) rfl) ⟨_, _, rfl, isI, New.same _⟩⟩
  exact stepsNil
 ·
  intro vs ρ w5 f' hf hT hS
  obtain ⟨hv0, hr0⟩ := (hT 0 (by decide) : (Is (.slice pL 1 cL)) _ _)
  obtain ⟨hv1, hr1⟩ := (hT 1 (by decide) : (Is (.pointer (some ⟨gl4, 0, none⟩))) _ _)
  obtain ⟨hv2, hr2⟩ := (hT 2 (by decide) : (Is (.agg #[.int .u64 (((p : Nat) : Int)), .slice pX M.length cX, .int .i64 (((colsM M : Nat) : Int))])) _ _)
  obtain ⟨hv3, hr3⟩ := (hT 3 (by decide) : (Is (.slice pL 1 cL)) _ _)
  obtain ⟨hv4, hr4⟩ := (hT 4 (by decide) : (Is (.pointer (some ⟨gl4, 0, none⟩))) _ _)
  obtain ⟨hv5, hr5⟩ := (hT 5 (by decide) : (Is (.pointer (some ⟨gl4, 2, none⟩))) _ _)
  obtain ⟨hv6, hr6⟩ := (hT 6 (by decide) : (Is (.int .i64 (((colsM M : Nat) : Int)))) _ _)
  simp only [pool, if_true, hr0, hr1, hr2, hr3, hr4, hr5, hr6, List.nil_append, List.cons_append, List.append_nil] at hS
  simp only [layf, hv0, hv1, hv2, hv3, hv4, hv5, hv6] at hf
  subst hf; clear hT hv0 hv1 hv2 hv3 hv4 hv5 hv6 hr0 hr1 hr2 hr3 hr4 hr5 hr6
  refine wlate 7 rfl (by kernel_rfl) (ocall rfl rfl Tryd.call42 rfl (wxreduce ht hp hp2 hS (by rw [hQX]; exact hshM) (by omega) (by omega) (by omega)) (args2 (ev rfl rfl) (ev rfl rfl)) ?_)
  rintro _ w6 ⟨_, _, rfl, ⟨pP, cP, PP, DP, QR, hRR, hDP, rfl, rfl⟩, hN⟩
  refine ⟨_, rfl, ?_⟩
  clear hS; have hS := hN; clear hN
  refine ⟨heldNil, ?_⟩
  refine wlate 8 rfl (by kernel_rfl) (omove (v := .tuple #[.slice pP PP.length cP, .int .u32 (DP : Int)]) rfl rfl (ev rfl rfl) ?_)
  refine ⟨heldNil, ?_⟩
  refine wlate3 9 (vs := [.slice pP PP.length cP, .int .u32 (DP : Int)]) rfl rfl rfl (by kernel_rfl) rfl rfl rfl rfl rfl rfl (by decide) rfl rfl rfl heldNil ?_
  refine wlate 12 rfl (by kernel_rfl) (oassign (v := .int .u32 (DP : Int)) rfl rfl (ev rfl rfl) ?_)
  refine ⟨heldNil, ?_⟩
  refine wdone rfl ?_
  refine thenN (wseq (wreg (wl rfl (omove (v := .slice pL 1 cL) rfl rfl (ev rfl rfl) ?_))))
  refine wl rfl (oindex (p := pL) (g := gl4) (off := 0) (m := 1) (k := 0) (j := 0) rfl rfl Tryd.runUnderlying73 Tryd.sizeOf63 (ev rfl rfl) (hgl4) evc (by omega) rfl ?_)
  refine wl rfl (ofieldAddr (g := gl4) (off := 0) 1 rfl rfl (ev rfl rfl) Tryd.runUnderlying63 rfl Tryd.sizeOf25 rfl ?_)
  refine wl rfl (oloadc (v := .slice pX M.length cX) (show One Tryd.prog 25 from ⟨Tryd.isAgg25, Tryd.sizeOf25⟩) rfl rfl (ev (v := .pointer (some ⟨gl4, 1, none⟩)) rfl rfl) (hS.lstAt 2 rfl hgl4 0 1 rfl rfl (by omega) rfl) ?_)
  refine wl rfl (omove (v := .slice pP PP.length cP) rfl rfl (ev rfl rfl) ?_)
  refine wl rfl (oassign (v := .slice pX M.length cX) rfl rfl (ev rfl rfl) ?_)
  refine wl rfl (oassign (v := .slice pP PP.length cP) rfl rfl (ev rfl rfl) ?_)
  refine wl rfl (oassign (v := .int .i64 0) rfl rfl evc ?_)
  refine wnil (thenN ?_)
  refine wleave ?_
  refine wret3 Tryd.results17 (tellT (v := .slice pX M.length cX) rfl rfl) (tellT (v := .slice pP PP.length cP) rfl rfl) (tellT (v := .int .i64 0) rfl rfl) ?_
  rw [hQX] at hRR
  exact ⟨_, _, rfl, ⟨_, _, _, _, _, _, hRR, rfl, rfl⟩, Sep.new (hS.pick [1, 0] (by decide) rfl) rfl⟩
theorem wlown {pm : Option Addr} {nm cm : Nat} {M : List (List Nat)} {w : World} (hm : MS w pm nm M) (hs : SmallM M) :
  Calls Tryd.prog 20 #[.slice pm nm cm] w (Ret (MMn nm M) w) := by
 have hnm := hm.1
 have hsl := hs.1
 have hS := Sep.init w
 refine went Tryd.func20 rfl (n := 20) rfl rfl ?_
 refine wseq (wreg (wl rfl (oassign (v := .slice none 0 0) rfl rfl evc ?_)))
 refine wnil (thenN (wseq (wreg (wl rfl (oassign (v := .slice none 0 0) rfl rfl evc ?_)))))
 refine wnil (thenN (wseq (wseq (wreg (wl rfl (omove (v := .slice pm nm cm) rfl rfl (ev rfl rfl) ?_))))))
 refine wl rfl (olen rfl rfl rfl Tryd.runUnderlying26 (p := pm) (k := nm) (m := cm) (ev rfl rfl) ?_)
 refine wl rfl (omove (v := .int .i64 0) rfl rfl evc ?_)
 refine wnil (thenN (wblock ?_))
 replace hS := hS.nilLst 52 1
 refine wloop (σ := Nat) (fun i a9 w' => ∃ (fb : Nat → Value) (Q : List Rw) (pX : Option Addr) (cX : Nat), a9 = act 20 (sets fb [(2, .slice none 0 0), (3, .slice pX i cX), (6, .slice pm nm cm), (7, .int .i64 (nm : Int)), (8, .int .i64 (i : Int))]) ∧ Sep w [.lst 52 1 pX i cX (mmE Q)] w' ∧ (i ≤ nm) ∧ (nums Q = M.take i)) (fun i => nm - i) (0) ⟨_, [], none, 0, act_sets (l := [(2, .slice none 0 0), (3, .slice none 0 0), (6, .slice pm nm cm), (7, .int .i64 (nm : Int)), (8, .int .i64 0)]) ⟨rfl, rfl, rfl, rfl, rfl, trivial⟩, hS, Nat.zero_le _, rfl⟩ ?_
 clear hS; rintro i _ w1 ⟨fb, Q, pX, cX, rfl, hS, hi, hQ⟩
 refine wseq (wreg ?_)
 by_cases hlt : i < nm
 ·
  refine wl rfl (obin (u := .int .i64 (i : Int)) (v := .int .i64 (nm : Int)) (z := .bool true) rfl rfl (ev rfl rfl) (ev rfl rfl) (bin_lss (decide_eq_true (by omega))) ?_)
  refine wnil (thenN (wseq ?_))
  refine wT (ev rfl rfl) ?_
  refine wskip (thenN (wseq (wblock (wseq (wreg ?_)))))
  obtain ⟨xr, hxr⟩ : ∃ r, (M)[i]? = some r := ⟨_, List.getElem?_eq_getElem (by have := hm.1; omega)⟩
  obtain ⟨br, ofr, pr, cr, hpr, hcr, hsr⟩ := hm.2.2 i _ hxr
  have hrb := hs.2 xr (List.mem_of_getElem? hxr)
  refine wl rfl (oindex (p := pm) (g := br) (off := ofr) (m := nm) (k := i) (j := (ofr + i * 1)) rfl rfl Tryd.runUnderlying26 Tryd.sizeOf52 (ev rfl rfl) (hpr) (ev rfl rfl) (by omega) rfl ?_)
  refine wl rfl (oloadc (v := .slice pr xr.length cr) (show One Tryd.prog 52 from ⟨Tryd.isAgg52, Tryd.sizeOf52⟩) rfl rfl (ev (v := .pointer (some ⟨br, (ofr + i * 1), none⟩)) rfl rfl) (hS.cellAt (hcr 0 _ rfl)) ?_)
  refine wl rfl (oassign (v := .slice pr xr.length cr) rfl rfl (ev rfl rfl) ?_)
  refine wnil (thenN (wreg (wl rfl (omove (v := .slice pX i cX) rfl rfl (ev rfl rfl) ?_))))
  refine wl rfl (obslice0 hS rfl rfl Tryd.runUnderlying52 Tryd.sizeOf27 ?_)
  clear hS; intro g2 w3 hS
  refine wl rfl (omove (v := .slice pr xr.length cr) rfl rfl (ev rfl rfl) ?_)
  refine wl rfl (oappendOwn (g := g2) (m := xr.length) (c2 := cr) (q := pr) (xs := xr) hS rfl rfl Tryd.underlying52 infouint32 (ev (v := .slice (some ⟨g2, 0, none⟩) 0 0) rfl rfl) (ev (v := .slice pr xr.length cr) rfl rfl) (hsr.below hS.below (Nat.le_refl _)) (by omega) ?_)
  clear hS; intro p5 c6 w4 hS
  refine wl rfl (obslice (ps := #[(0, .slice p5 xr.length c6)]) (z := .slice none 0 0) [.slice p5 xr.length c6] hS rfl rfl Tryd.runUnderlying26 Tryd.sizeOf52 Tryd.zeroValue52 (parts1 (ev (v := .slice p5 xr.length c6) rfl rfl)) rfl (by decide) (fill1_1s rfl rfl) ?_)
  clear hS; intro g7 w8 hS
  obtain hS := (show Sep w [.rowm p5 xr.length c6 xr, .lst 52 1 pX i cX (mmE Q), .blk g7 [.slice p5 xr.length c6] 52] w8 from hS.pick [1, 2, 0] (by decide) rfl)
  refine wl rfl (oappendL (p := pX) (m := i) (c := cX) (g2 := g7) (c2 := 1) (off := 0) [.slice p5 xr.length c6] [.rowm p5 xr.length c6 xr] hS rfl rfl Tryd.underlying26 infoRow rfl (by decide) (ev (v := .slice pX i cX) rfl rfl) (ev (v := .slice (some ⟨g7, 0, none⟩) 1 1) rfl rfl) (fun j v hj => by rw [Nat.zero_add]; exact (blk_cell (hS.blkAt 2 rfl) j).trans hj) rfl rfl rfl (by omega) (by omega) ?_)
  clear hS; intro p10 c11 w9 hS
  refine wl rfl (oassign (v := .slice p10 ((i + 1)) c11) rfl rfl (ev rfl rfl) ?_)
  refine wnil (blkN (thenN (wreg (wl rfl (obin (u := .int .i64 (i : Int)) (v := .int .i64 1) (z := .int .i64 (((i + 1 : Nat) : Int))) rfl rfl (ev rfl rfl) evc (bin_add (wrap_i64 (by omega) (by omega))) ?_)))))
  refine wl rfl (omove (v := .int .i64 (((i + 1 : Nat) : Int))) rfl rfl (ev rfl rfl) ?_)
  refine wnil (thenN ?_)
  rw [mmE_snoc (xs := xr) (n := xr.length) rfl] at hS
  exact ⟨(i + 1), ⟨_, _, _, _, act_sets (l := [(2, .slice none 0 0), (3, .slice p10 ((i + 1)) c11), (6, .slice pm nm cm), (7, .int .i64 (nm : Int)), (8, .int .i64 (((i + 1 : Nat) : Int)))]) ⟨rfl, rfl, rfl, rfl, rfl, trivial⟩, hS.pick [0] (by decide) rfl, by omega, by rw [nums_app, hQ, take_next hxr]⟩, by omega⟩
 ·
  refine wl rfl (obin (u := .int .i64 (i : Int)) (v := .int .i64 (nm : Int)) (z := .bool false) rfl rfl (ev rfl rfl) (ev rfl rfl) (bin_lss (decide_eq_false (by omega))) ?_)
  refine wnil (thenN (wseq ?_))
  refine wF (ev rfl rfl) ?_
  refine wexit ?_
  refine thenE ?_
  refine thenE ?_
  refine blkE ?_
  refine thenN (wseq (wreg (wl rfl (omove (v := .slice pX i cX) rfl rfl (ev rfl rfl) ?_))))
  refine wl rfl (oassign (v := .slice pX i cX) rfl rfl (ev rfl rfl) ?_)
  refine wnil (thenN ?_)
  refine wleave ?_
  have hin : i = nm := by omega
  refine wret1 Tryd.results20 (tellT (v := .slice pX i cX) rfl rfl) ?_
  exact ⟨_, _, rfl, ⟨pX, cX, Q, by rw [hQ, List.take_of_length_le (by omega)], by rw [hin], by rw [hin]⟩, hS.newR 0 rfl rfl⟩
theorem wlints {pa pb : Option Addr} {na ca nb cb : Nat} {P : List Nat} {w : World} (hA : SI w pa na P) (hB : SI w pb nb P) (hl : P.length ≤ 2097152) :
  Calls Tryd.prog 19 #[.slice pa na ca, .slice pb nb cb] w (Ret (Is (.bool true)) w) := by
 have hna := hA.1
 have hnb := hB.1
 have hS := Sep.init w
 refine went Tryd.func19 rfl (n := 26) rfl rfl ?_
 refine wseq (wreg (wl rfl (oassign (v := .bool false) rfl rfl evc ?_)))
 refine wnil (thenN (wseq (wseq (wreg (wl rfl (omove (v := .slice pa na ca) rfl rfl (ev rfl rfl) ?_))))))
 refine wl rfl (olen rfl rfl rfl Tryd.runUnderlying35 (p := pa) (k := na) (m := ca) (ev rfl rfl) ?_)
 refine wl rfl (omove (v := .slice pb nb cb) rfl rfl (ev rfl rfl) ?_)
 refine wl rfl (olen rfl rfl rfl Tryd.runUnderlying35 (p := pb) (k := nb) (m := cb) (ev rfl rfl) ?_)
 refine wl rfl (obin (u := .int .i64 (na : Int)) (v := .int .i64 (nb : Int)) (z := .bool false) rfl rfl (ev rfl rfl) (ev rfl rfl) (bin_neq (neF (by omega))) ?_)
 refine wnil (thenN ?_)
 refine wF (ev rfl rfl) ?_
 refine wskip (thenN (wseq (wseq (wreg (wl rfl (omove (v := .slice pa na ca) rfl rfl (ev rfl rfl) ?_))))))
 refine wl rfl (olen rfl rfl rfl Tryd.runUnderlying35 (p := pa) (k := na) (m := ca) (ev rfl rfl) ?_)
 refine wl rfl (omove (v := .int .i64 0) rfl rfl evc ?_)
 refine wnil (thenN (wblock ?_))
 refine wloop (σ := Nat) (fun i a9 w' => ∃ (fb : Nat → Value), a9 = act 26 (sets fb [(0, .slice pa na ca), (1, .slice pb nb cb), (12, .int .i64 (na : Int)), (13, .int .i64 (i : Int))]) ∧ Sep w [] w' ∧ (i ≤ na)) (fun i => na - i) (0) ⟨_, act_sets (l := [(0, .slice pa na ca), (1, .slice pb nb cb), (12, .int .i64 (na : Int)), (13, .int .i64 0)]) ⟨rfl, rfl, rfl, rfl, trivial⟩, hS, Nat.zero_le _⟩ ?_
 clear hS; rintro i _ w1 ⟨fb, rfl, hS, hi⟩
 refine wseq (wreg ?_)
 by_cases hlt : i < na
 ·
  refine wl rfl (obin (u := .int .i64 (i : Int)) (v := .int .i64 (na : Int)) (z := .bool true) rfl rfl (ev rfl rfl) (ev rfl rfl) (bin_lss (decide_eq_true (by omega))) ?_)
  refine wnil (thenN (wseq ?_))
  refine wT (ev rfl rfl) ?_
  refine wskip (thenN (wseq (wblock (wseq (wreg (wl rfl (omove (v := .int .i64 (i : Int)) rfl rfl (ev rfl rfl) ?_)))))))
  refine wl rfl (oassign (v := .int .i64 (i : Int)) rfl rfl (ev rfl rfl) ?_)
  refine wnil (thenN (wseq ?_))
  obtain ⟨bx1, ox1, hpx1, hcx1⟩ := hA.2.2 i (by omega)
  obtain ⟨bx2, ox2, hpx2, hcx2⟩ := hB.2.2 i (by omega)
  refine wstage 9 [16, 17, 18, 19, 20, 21, 22, 23, 24] [[], [], [0, 1], [2, 0, 1], [], [], [4, 5], [6, 4, 5], [3, 7, 0, 1, 2, 4, 5, 6]] [[], [], [], [], [], [], [], [], []] [] [] (fun i9 => ([fun _ => Is (.slice pa na ca), fun _ => Is (.int .i64 (i : Int)), fun _ => Is (.pointer (some ⟨bx1, (ox1 + i * 1), none⟩)), fun _ => Is (.int .i64 (((nd P i : Nat) : Int))), fun _ => Is (.slice pb nb cb), fun _ => Is (.int .i64 (i : Int)), fun _ => Is (.pointer (some ⟨bx2, (ox2 + i * 1), none⟩)), fun _ => Is (.int .i64 (((nd P i : Nat) : Int))), fun _ => Is (.bool false)] : List (List Value → Tell)).getD i9 (fun _ _ _ => False)) (heldNil) (fun d _ _ _ _ h => (by cases d <;> exact h)) (by kernel_rfl) (by kernel_rfl) (by kernel_rfl) hS ?_ ?_
  ·
   refine stepsCons rfl (fun Q f' w' ρ S ho hT hS hB => ?_) ?_
   ·exact .inl ⟨want_none rfl, omove (v := .slice pa na ca) rfl rfl (ev rfl (ho 0 rfl)) ⟨_, _, rfl, isI, New.same _⟩⟩
   refine stepsCons rfl (fun Q f' w' ρ S ho hT hS hB => ?_) ?_
   ·exact .inl ⟨want_none rfl, omove (v := .int .i64 (i : Int)) rfl rfl (ev rfl (ho 5 rfl)) ⟨_, _, rfl, isI, New.same _⟩⟩
   refine stepsCons rfl (fun Q f' w' ρ S ho hT hS hB => ?_) ?_
   ·obtain ⟨hv0, hr0⟩ := (hT 0 16 rfl rfl : (Is (.slice pa na ca)) _ _)
    obtain ⟨hv1, hr1⟩ := (hT 1 17 rfl rfl : (Is (.int .i64 (((i : Nat) : Int)))) _ _)
    obtain hS := hS.flat2 hr0 hr1
    exact .inl ⟨want_none rfl, oindex (p := pa) (g := bx1) (off := ox1) (m := na) (k := i) (j := (ox1 + i * 1)) rfl rfl Tryd.runUnderlying35 Tryd.sizeOf3 (ev rfl hv0) (hpx1) (ev rfl hv1) ((show i < na by omega)) rfl ⟨_, _, rfl, isI, New.same _⟩⟩
   refine stepsCons rfl (fun Q f' w' ρ S ho hT hS hB => ?_) ?_
   ·obtain ⟨hv2, hr2⟩ := (hT 2 18 rfl rfl : (Is (.pointer (some ⟨bx1, (ox1 + i * 1), none⟩))) _ _)
    obtain hS := hS.flat1 hr2
    exact .inl ⟨want_none rfl, oloadc (v := .int .i64 (((nd P i : Nat) : Int))) oneI rfl rfl (ev (v := .pointer (some ⟨bx1, (ox1 + i * 1), none⟩)) rfl hv2) (hS.cellAt (hcx1 0 _ rfl)) ⟨_, _, rfl, isI, New.same _⟩⟩
   refine stepsCons rfl (fun Q f' w' ρ S ho hT hS hB => ?_) ?_
   ·exact .inl ⟨want_none rfl, omove (v := .slice pb nb cb) rfl rfl (ev rfl (ho 1 rfl)) ⟨_, _, rfl, isI, New.same _⟩⟩
   refine stepsCons rfl (fun Q f' w' ρ S ho hT hS hB => ?_) ?_
   ·exact .inl ⟨want_none rfl, omove (v := .int .i64 (i : Int)) rfl rfl (ev rfl (ho 5 rfl)) ⟨_, _, rfl, isI, New.same _⟩⟩
   refine stepsCons rfl (fun Q f' w' ρ S ho hT hS hB => ?_) ?_
   ·obtain ⟨hv4, hr4⟩ := (hT 4 20 rfl rfl : (Is (.slice pb nb cb)) _ _)
    obtain ⟨hv5, hr5⟩ := (hT 5 21 rfl rfl : (Is (.int .i64 (((i : Nat) : Int)))) _ _)
    obtain hS := hS.flat2 hr4 hr5
    exact .inl ⟨want_none rfl, oindex (p := pb) (g := bx2) (off := ox2) (m := nb) (k := i) (j := (ox2 + i * 1)) rfl rfl Tryd.runUnderlying35 Tryd.sizeOf3 (ev rfl hv4) (hpx2) (ev rfl hv5) ((show i < nb by omega)) rfl ⟨_, _, rfl, isI, New.same _⟩⟩
   refine stepsCons rfl (fun Q f' w' ρ S ho hT hS hB => ?_) ?_
   ·obtain ⟨hv6, hr6⟩ := (hT 6 22 rfl rfl : (Is (.pointer (some ⟨bx2, (ox2 + i * 1), none⟩))) _ _)
    obtain hS := hS.flat1 hr6
    exact .inl ⟨want_none rfl, oloadc (v := .int .i64 (((nd P i : Nat) : Int))) oneI rfl rfl (ev (v := .pointer (some ⟨bx2, (ox2 + i * 1), none⟩)) rfl hv6) (hS.cellAt (hcx2 0 _ rfl)) ⟨_, _, rfl, isI, New.same _⟩⟩
   refine stepsCons rfl (fun Q f' w' ρ S ho hT hS hB => ?_) ?_
   ·obtain ⟨hv3, hr3⟩ := (hT 3 19 rfl rfl : (Is (.int .i64 (((nd P i : Nat) : Int)))) _ _)
    obtain ⟨hv7, hr7⟩ := (hT 7 23 rfl rfl : (Is (.int .i64 (((nd P i : Nat) : Int)))) _ _)
    obtain hS := hS.flat2 hr3 hr7
    exact .inl ⟨want_none rfl, obin (u := .int .i64 (((nd P i : Nat) : Int))) (v := .int .i64 (((nd P i : Nat) : Int))) (z := .bool false) rfl rfl (ev rfl hv3) (ev rfl hv7) (bin_neq (neF rfl)) ⟨_, _, rfl, isI, New.same _⟩⟩
   exact stepsNil
  ·
   intro vs ρ w2 f' hf hT hS
   obtain ⟨hv0, hr0⟩ := (hT 0 (by decide) : (Is (.slice pa na ca)) _ _)
   obtain ⟨hv1, hr1⟩ := (hT 1 (by decide) : (Is (.int .i64 (((i : Nat) : Int)))) _ _)
   obtain ⟨hv2, hr2⟩ := (hT 2 (by decide) : (Is (.pointer (some ⟨bx1, (ox1 + i * 1), none⟩))) _ _)
   obtain ⟨hv3, hr3⟩ := (hT 3 (by decide) : (Is (.int .i64 (((nd P i : Nat) : Int)))) _ _)
   obtain ⟨hv4, hr4⟩ := (hT 4 (by decide) : (Is (.slice pb nb cb)) _ _)
   obtain ⟨hv5, hr5⟩ := (hT 5 (by decide) : (Is (.int .i64 (((i : Nat) : Int)))) _ _)
   obtain ⟨hv6, hr6⟩ := (hT 6 (by decide) : (Is (.pointer (some ⟨bx2, (ox2 + i * 1), none⟩))) _ _)
   obtain ⟨hv7, hr7⟩ := (hT 7 (by decide) : (Is (.int .i64 (((nd P i : Nat) : Int)))) _ _)
   obtain ⟨hv8, hr8⟩ := (hT 8 (by decide) : (Is (.bool false)) _ _)
   simp only [pool, if_true, hr0, hr1, hr2, hr3, hr4, hr5, hr6, hr7, hr8, List.nil_append, List.cons_append, List.append_nil] at hS
   simp only [layf, hv0, hv1, hv2, hv3, hv4, hv5, hv6, hv7, hv8] at hf
   subst hf; clear hT hv0 hv1 hv2 hv3 hv4 hv5 hv6 hv7 hv8 hr0 hr1 hr2 hr3 hr4 hr5 hr6 hr7 hr8
   refine wdone rfl ?_
   refine thenN ?_
   refine wF (ev rfl rfl) ?_
   refine wskip (blkN (thenN (wreg (wl rfl (obin (u := .int .i64 (i : Int)) (v := .int .i64 1) (z := .int .i64 (((i + 1 : Nat) : Int))) rfl rfl (ev rfl rfl) evc (bin_add (wrap_i64 (by omega) (by omega))) ?_)))))
   refine wl rfl (omove (v := .int .i64 (((i + 1 : Nat) : Int))) rfl rfl (ev rfl rfl) ?_)
   refine wnil (thenN ?_)
   exact ⟨(i + 1), ⟨_, act_sets (l := [(0, .slice pa na ca), (1, .slice pb nb cb), (12, .int .i64 (na : Int)), (13, .int .i64 (((i + 1 : Nat) : Int)))]) ⟨rfl, rfl, rfl, rfl, trivial⟩, hS.pick [] (by decide) rfl, by omega⟩, by omega⟩
 ·
  refine wl rfl (obin (u := .int .i64 (i : Int)) (v := .int .i64 (na : Int)) (z := .bool false) rfl rfl (ev rfl rfl) (ev rfl rfl) (bin_lss (decide_eq_false (by omega))) ?_)
  refine wnil (thenN (wseq ?_))
  refine wF (ev rfl rfl) ?_
  refine wexit ?_
  refine thenE ?_
  refine thenE ?_
  refine blkE ?_
  refine thenN (wseq (wreg (wl rfl (oassign (v := .bool true) rfl rfl evc ?_))))
  refine wnil (thenN ?_)
  refine wleave ?_
  refine wret1 Tryd.results19 (tellT (v := .bool true) rfl rfl) ?_
  exact ⟨_, _, rfl, isI, hS.new0⟩
theorem windexi {pa : Option Addr} {na ca c j : Nat} {P : List Nat} {w : World} (hA : SI w pa na P) (hl : P.length ≤ 2097152) (hj : j < na) (hjc : nd P j = c) (hjl : ∀ l, l < j → nd P l ≠ c)  :
  Calls Tryd.prog 70 #[.slice pa na ca, .int .i64 ((c : Nat) : Int)] w (Ret (Is (.int .i64 ((j : Nat) : Int))) w) := by
 have hna := hA.1
 have hS := Sep.init w
 refine went Tryd.func70 rfl (n := 19) rfl rfl ?_
 refine wseq (wreg (wl rfl (oassign (v := .int .i64 0) rfl rfl evc ?_)))
 refine wnil (thenN (wseq (wseq (wreg (wl rfl (omove (v := .slice pa na ca) rfl rfl (ev rfl rfl) ?_))))))
 refine wl rfl (olen rfl rfl rfl Tryd.runUnderlying35 (p := pa) (k := na) (m := ca) (ev rfl rfl) ?_)
 refine wl rfl (omove (v := .int .i64 0) rfl rfl evc ?_)
 refine wnil (thenN (wblock ?_))
 refine wloop (σ := Nat) (fun i a9 w' => ∃ (fb : Nat → Value), a9 = act 19 (sets fb [(0, .slice pa na ca), (1, .int .i64 (c : Int)), (7, .int .i64 (na : Int)), (8, .int .i64 (i : Int))]) ∧ Sep w [] w' ∧ (i ≤ j)) (fun i => na - i) (0) ⟨_, act_sets (l := [(0, .slice pa na ca), (1, .int .i64 (c : Int)), (7, .int .i64 (na : Int)), (8, .int .i64 0)]) ⟨rfl, rfl, rfl, rfl, trivial⟩, hS, Nat.zero_le _⟩ ?_
 clear hS; rintro i _ w1 ⟨fb, rfl, hS, hi⟩
 refine wseq (wreg (wl rfl (obin (u := .int .i64 (i : Int)) (v := .int .i64 (na : Int)) (z := .bool true) rfl rfl (ev rfl rfl) (ev rfl rfl) (bin_lss (decide_eq_true (by omega))) ?_)))
 refine wnil (thenN (wseq ?_))
 refine wT (ev rfl rfl) ?_
 refine wskip (thenN (wseq (wblock (wseq (wreg (wl rfl (omove (v := .int .i64 (i : Int)) rfl rfl (ev rfl rfl) ?_)))))))
 refine wl rfl (oassign (v := .int .i64 (i : Int)) rfl rfl (ev rfl rfl) ?_)
 refine wnil (thenN (wseq (wreg (wl rfl (omove (v := .int .i64 (c : Int)) rfl rfl (ev rfl rfl) ?_)))))
 refine wl rfl (omove (v := .slice pa na ca) rfl rfl (ev rfl rfl) ?_)
 refine wl rfl (omove (v := .int .i64 (i : Int)) rfl rfl (ev rfl rfl) ?_)
 obtain ⟨bx, ox, hpx, hcx⟩ := hA.2.2 i (by omega)
 refine wl rfl (oindex (p := pa) (g := bx) (off := ox) (m := na) (k := i) (j := (ox + i * 1)) rfl rfl Tryd.runUnderlying35 Tryd.sizeOf3 (ev rfl rfl) (hpx) (ev rfl rfl) ((show i < na by omega)) rfl ?_)
 refine wl rfl (oloadc (v := .int .i64 (((nd P i : Nat) : Int))) oneI rfl rfl (ev (v := .pointer (some ⟨bx, (ox + i * 1), none⟩)) rfl rfl) (hS.cellAt (hcx 0 _ rfl)) ?_)
 by_cases hij : i = j
 ·
  subst hij
  refine wl rfl (obin (u := .int .i64 (c : Int)) (v := .int .i64 (((nd P i : Nat) : Int))) (z := .bool true) rfl rfl (ev rfl rfl) (ev rfl rfl) (bin_eql (eqT (by omega))) ?_)
  refine wnil (thenN ?_)
  refine wT (ev rfl rfl) ?_
  refine wseq (wreg (wl rfl (omove (v := .int .i64 (i : Int)) rfl rfl (ev rfl rfl) ?_)))
  refine wl rfl (oassign (v := .int .i64 (i : Int)) rfl rfl (ev rfl rfl) ?_)
  refine wnil (thenN ?_)
  refine wleave ?_
  refine blkR ?_
  refine thenR ?_
  refine thenR ?_
  refine blkR ?_
  refine thenR ?_
  refine wret1 Tryd.results70 (tellT (v := .int .i64 (i : Int)) rfl rfl) ?_
  exact ⟨_, _, rfl, isI, hS.new0⟩
 ·
  refine wl rfl (obin (u := .int .i64 (c : Int)) (v := .int .i64 (((nd P i : Nat) : Int))) (z := .bool false) rfl rfl (ev rfl rfl) (ev rfl rfl) (bin_eql (eqF (by have := hjl i (by omega); omega))) ?_)
  refine wnil (thenN ?_)
  refine wF (ev rfl rfl) ?_
  refine wskip (blkN (thenN (wreg (wl rfl (obin (u := .int .i64 (i : Int)) (v := .int .i64 1) (z := .int .i64 (((i + 1 : Nat) : Int))) rfl rfl (ev rfl rfl) evc (bin_add (wrap_i64 (by omega) (by omega))) ?_)))))
  refine wl rfl (omove (v := .int .i64 (((i + 1 : Nat) : Int))) rfl rfl (ev rfl rfl) ?_)
  refine wnil (thenN ?_)
  exact ⟨(i + 1), ⟨_, act_sets (l := [(0, .slice pa na ca), (1, .int .i64 (c : Int)), (7, .int .i64 (na : Int)), (8, .int .i64 (((i + 1 : Nat) : Int)))]) ⟨rfl, rfl, rfl, rfl, trivial⟩, hS.pick [] (by decide) rfl, by omega⟩, by omega⟩
theorem windexiN {pa : Option Addr} {na ca c : Nat} {P : List Nat} {w : World} (hA : SI w pa na P) (hl : P.length ≤ 2097152) (hn : ∀ l, l < na → nd P l ≠ c)  :
  Calls Tryd.prog 70 #[.slice pa na ca, .int .i64 ((c : Nat) : Int)] w (Ret (Is (.int .i64 (-1))) w) := by
 have hna := hA.1
 have hS := Sep.init w
 refine went Tryd.func70 rfl (n := 19) rfl rfl ?_
 refine wseq (wreg (wl rfl (oassign (v := .int .i64 0) rfl rfl evc ?_)))
 refine wnil (thenN (wseq (wseq (wreg (wl rfl (omove (v := .slice pa na ca) rfl rfl (ev rfl rfl) ?_))))))
 refine wl rfl (olen rfl rfl rfl Tryd.runUnderlying35 (p := pa) (k := na) (m := ca) (ev rfl rfl) ?_)
 refine wl rfl (omove (v := .int .i64 0) rfl rfl evc ?_)
 refine wnil (thenN (wblock ?_))
 refine wloop (σ := Nat) (fun i a9 w' => ∃ (fb : Nat → Value), a9 = act 19 (sets fb [(0, .slice pa na ca), (1, .int .i64 (c : Int)), (7, .int .i64 (na : Int)), (8, .int .i64 (i : Int))]) ∧ Sep w [] w' ∧ (i ≤ na)) (fun i => na - i) (0) ⟨_, act_sets (l := [(0, .slice pa na ca), (1, .int .i64 (c : Int)), (7, .int .i64 (na : Int)), (8, .int .i64 0)]) ⟨rfl, rfl, rfl, rfl, trivial⟩, hS, Nat.zero_le _⟩ ?_
 clear hS; rintro i _ w1 ⟨fb, rfl, hS, hi⟩
 refine wseq (wreg ?_)
 by_cases hlt : i < na
 ·
  refine wl rfl (obin (u := .int .i64 (i : Int)) (v := .int .i64 (na : Int)) (z := .bool true) rfl rfl (ev rfl rfl) (ev rfl rfl) (bin_lss (decide_eq_true (by omega))) ?_)
  refine wnil (thenN (wseq ?_))
  refine wT (ev rfl rfl) ?_
  refine wskip (thenN (wseq (wblock (wseq (wreg (wl rfl (omove (v := .int .i64 (i : Int)) rfl rfl (ev rfl rfl) ?_)))))))
  refine wl rfl (oassign (v := .int .i64 (i : Int)) rfl rfl (ev rfl rfl) ?_)
  refine wnil (thenN (wseq (wreg (wl rfl (omove (v := .int .i64 (c : Int)) rfl rfl (ev rfl rfl) ?_)))))
  refine wl rfl (omove (v := .slice pa na ca) rfl rfl (ev rfl rfl) ?_)
  refine wl rfl (omove (v := .int .i64 (i : Int)) rfl rfl (ev rfl rfl) ?_)
  obtain ⟨bx, ox, hpx, hcx⟩ := hA.2.2 i (by omega)
  refine wl rfl (oindex (p := pa) (g := bx) (off := ox) (m := na) (k := i) (j := (ox + i * 1)) rfl rfl Tryd.runUnderlying35 Tryd.sizeOf3 (ev rfl rfl) (hpx) (ev rfl rfl) ((show i < na by omega)) rfl ?_)
  refine wl rfl (oloadc (v := .int .i64 (((nd P i : Nat) : Int))) oneI rfl rfl (ev (v := .pointer (some ⟨bx, (ox + i * 1), none⟩)) rfl rfl) (hS.cellAt (hcx 0 _ rfl)) ?_)
  refine wl rfl (obin (u := .int .i64 (c : Int)) (v := .int .i64 (((nd P i : Nat) : Int))) (z := .bool false) rfl rfl (ev rfl rfl) (ev rfl rfl) (bin_eql (eqF (by have := hn i (by omega); omega))) ?_)
  refine wnil (thenN ?_)
  refine wF (ev rfl rfl) ?_
  refine wskip (blkN (thenN (wreg (wl rfl (obin (u := .int .i64 (i : Int)) (v := .int .i64 1) (z := .int .i64 (((i + 1 : Nat) : Int))) rfl rfl (ev rfl rfl) evc (bin_add (wrap_i64 (by omega) (by omega))) ?_)))))
  refine wl rfl (omove (v := .int .i64 (((i + 1 : Nat) : Int))) rfl rfl (ev rfl rfl) ?_)
  refine wnil (thenN ?_)
  exact ⟨(i + 1), ⟨_, act_sets (l := [(0, .slice pa na ca), (1, .int .i64 (c : Int)), (7, .int .i64 (na : Int)), (8, .int .i64 (((i + 1 : Nat) : Int)))]) ⟨rfl, rfl, rfl, rfl, trivial⟩, hS.pick [] (by decide) rfl, by omega⟩, by omega⟩
 ·
  refine wl rfl (obin (u := .int .i64 (i : Int)) (v := .int .i64 (na : Int)) (z := .bool false) rfl rfl (ev rfl rfl) (ev rfl rfl) (bin_lss (decide_eq_false (by omega))) ?_)
  refine wnil (thenN (wseq ?_))
  refine wF (ev rfl rfl) ?_
  refine wexit ?_
  refine thenE ?_
  refine thenE ?_
  refine blkE ?_
  refine thenN (wseq (wreg (wl rfl (oassign (v := .int .i64 (-1)) rfl rfl evc ?_))))
  refine wnil (thenN ?_)
  refine wleave ?_
  refine wret1 Tryd.results70 (tellT (v := .int .i64 (-1)) rfl rfl) ?_
  exact ⟨_, _, rfl, isI, hS.new0⟩
theorem wcontY {pa : Option Addr} {na ca c : Nat} {P : List Nat} {w : World} (hA : SI w pa na P) (hl : P.length ≤ 2097152) (h : c ∈ P) :
  Calls Tryd.prog 54 #[.slice pa na ca, .int .i64 ((c : Nat) : Int)] w (Ret (Is (.bool true)) w) := by
 have hna := hA.1
 obtain ⟨j0, h1, h2⟩ := mem_nd h
 obtain ⟨j, ⟨hj, hjc⟩, hjl⟩ := least_nat (Q := fun j => j < P.length ∧ nd P j = c) j0 ⟨h1, h2⟩
 have hS := Sep.init w
 refine went Tryd.func54 rfl (n := 9) rfl rfl ?_
 refine wseq (wreg (wl rfl (oassign (v := .bool false) rfl rfl evc ?_)))
 refine wnil (thenN (wseq (wreg (wl rfl (omove (v := .slice pa na ca) rfl rfl (ev rfl rfl) ?_)))))
 refine wl rfl (omove (v := .int .i64 (c : Int)) rfl rfl (ev rfl rfl) ?_)
 refine wl rfl (ocall rfl rfl Tryd.call70 rfl (windexi (hA.at hS) hl (by omega) hjc (fun l hl9 e => hjl l hl9 ⟨by omega, e⟩)) (args2 (ev rfl rfl) (ev rfl rfl)) ?_)
 rintro _ w1 ⟨_, _, rfl, ⟨rfl, rfl⟩, hN⟩
 refine ⟨_, rfl, ?_⟩
 replace hS := hS.news hN; clear hN
 refine wl rfl (obin (u := .int .i64 (j : Int)) (v := .int .i64 0) (z := .bool true) rfl rfl (ev rfl rfl) evc (bin_geq (decide_eq_true (by omega))) ?_)
 refine wl rfl (oassign (v := .bool true) rfl rfl (ev rfl rfl) ?_)
 refine wnil (thenN ?_)
 refine wleave ?_
 refine wret1 Tryd.results54 (tellT (v := .bool true) rfl rfl) ?_
 exact ⟨_, _, rfl, isI, hS.new0⟩
theorem wcontN {pa : Option Addr} {na ca c : Nat} {P : List Nat} {w : World} (hA : SI w pa na P) (hl : P.length ≤ 2097152) (h : ¬ c ∈ P) :
  Calls Tryd.prog 54 #[.slice pa na ca, .int .i64 ((c : Nat) : Int)] w (Ret (Is (.bool false)) w) := by
 have hna := hA.1
 have hS := Sep.init w
 refine went Tryd.func54 rfl (n := 9) rfl rfl ?_
 refine wseq (wreg (wl rfl (oassign (v := .bool false) rfl rfl evc ?_)))
 refine wnil (thenN (wseq (wreg (wl rfl (omove (v := .slice pa na ca) rfl rfl (ev rfl rfl) ?_)))))
 refine wl rfl (omove (v := .int .i64 (c : Int)) rfl rfl (ev rfl rfl) ?_)
 refine wl rfl (ocall rfl rfl Tryd.call70 rfl (windexiN (hA.at hS) hl (fun l hl9 e => h (by rw [← e, nd_get (by omega)]; exact List.getElem_mem _))) (args2 (ev rfl rfl) (ev rfl rfl)) ?_)
 rintro _ w1 ⟨_, _, rfl, ⟨rfl, rfl⟩, hN⟩
 refine ⟨_, rfl, ?_⟩
 replace hS := hS.news hN; clear hN
 refine wl rfl (obin (u := .int .i64 (-1)) (v := .int .i64 0) (z := .bool false) rfl rfl (ev rfl rfl) evc (bin_geq (by decide)) ?_)
 refine wl rfl (oassign (v := .bool false) rfl rfl (ev rfl rfl) ?_)
 refine wnil (thenN ?_)
 refine wleave ?_
 refine wret1 Tryd.results54 (tellT (v := .bool false) rfl rfl) ?_
 exact ⟨_, _, rfl, isI, hS.new0⟩
end Go.Proofs.YtndilfigdbenoaaDoor
/-
  The document's Add of words, Dot; modmat's Kernel.
-/
namespace Go.Proofs.YtndilfigdbenoaaDoor
open Go.RowKit
def kerTo (p C : Nat) (R : List (List Nat)) (P : List Nat) (c : Nat) : Nat → List Nat
  | 0 => (List.replicate C 0).set c 1
  | i + 1 => (kerTo p C R P c i).set (nd P i) ((0 + p - nd (R.getD i []) c) % p)
theorem kerTo_len {p C c : Nat} {R : List (List Nat)} {P : List Nat} : ∀ i, (kerTo p C R P c i).length = C
  | 0 => by simp [kerTo]
  | i + 1 => by rw [kerTo, List.length_set]; exact kerTo_len i
def kerM (p C : Nat) (R : List (List Nat)) (P : List Nat) : Nat → List (List Nat)
  | 0 => []
  | c + 1 => if c ∈ P then kerM p C R P c else kerM p C R P c ++ [kerTo p C R P c P.length]
theorem kerM_le {p C : Nat} {R : List (List Nat)} {P : List Nat} : ∀ c, (kerM p C R P c).length ≤ c
 | 0 => Nat.le_refl _
 | c + 1 => by
  have := kerM_le (p := p) (C := C) (R := R) (P := P) c
  rw [kerM]
  split
  ·omega
  ·rw [List.length_append]; simp only [List.length_cons, List.length_nil]; omega
def kerP (p : Nat) (M : List (List Nat)) : List (List Nat) := kerM p (colsM M) (redTo p (modM p M) (colsM M)).1 (redTo p (modM p M) (colsM M)).2 (colsM M)
theorem wxkernel40 {pm : Option Addr} {nm cm p : Nat} {M : List (List Nat)} {w : World} (ht : Tb w) (hm : MS w pm nm M) (hp2 : p < 4294967296) (hs : SmallM M) (hp : ¬ MR.Pr p) :
  Calls Tryd.prog 31 #[.slice pm nm cm, .int .u32 ((p : Nat) : Int)] w (Ret (Is (.tuple #[.slice none 0 0, .int .i64 40])) w) := by
 have hS := Sep.init w
 refine went Tryd.func31 rfl (n := 77) rfl rfl ?_
 refine wseq (wreg (wl rfl (oassign (v := .slice none 0 0) rfl rfl evc ?_)))
 refine wl rfl (oassign (v := .int .i64 0) rfl rfl evc ?_)
 refine wnil (thenN (wseq (wreg (wl rfl (omove (v := .int .u32 (p : Int)) rfl rfl (ev rfl rfl) ?_)))))
 refine wl rfl (omove (v := .slice pm nm cm) rfl rfl (ev rfl rfl) ?_)
 refine wl rfl (obslice (ps := #[(0, .slice pm nm cm)]) (z := .slice none 0 0) [.slice pm nm cm] hS rfl rfl Tryd.runUnderlying81 Tryd.sizeOf26 Tryd.zeroValue26 (parts1 (ev (v := .slice pm nm cm) rfl rfl)) rfl (by decide) (fill1_1s rfl rfl) ?_)
 clear hS; intro g1 w2 hS
 refine wl rfl (ocall rfl rfl Tryd.call45 rfl (wxall40 (ht.at hS) (LMS.one (hS.blkAt 0 rfl) (hm.at hS)) hp2 (by omega) (fun N h => by rw [List.mem_singleton.1 h]; exact hs) (hp)) (args2 (ev rfl rfl) (ev rfl rfl)) ?_)
 rintro _ w3 ⟨_, _, rfl, ⟨rfl, rfl⟩, hN⟩
 refine ⟨_, rfl, ?_⟩
 replace hS := hS.news hN; clear hN
 refine wl rfl (omove (v := .tuple #[.slice none 0 0, .int .i64 40]) rfl rfl (ev rfl rfl) ?_)
 refine wl rfl (oextract (vs := [.slice none 0 0, .int .i64 40]) (v := .slice none 0 0) rfl rfl (ev rfl rfl) rfl ?_)
 refine wl rfl (oextract (vs := [.slice none 0 0, .int .i64 40]) (v := .int .i64 40) rfl rfl (ev rfl rfl) rfl ?_)
 refine wl rfl (oassign (v := .slice none 0 0) rfl rfl (ev rfl rfl) ?_)
 refine wl rfl (oassign (v := .int .i64 40) rfl rfl (ev rfl rfl) ?_)
 refine wnil (thenN (wseq (wseq (wreg (wl rfl (omove (v := .int .i64 40) rfl rfl (ev rfl rfl) ?_))))))
 refine wl rfl (obin (u := .int .i64 40) (v := .int .i64 0) (z := .bool true) rfl rfl (ev rfl rfl) evc (bin_neq (by decide)) ?_)
 refine wnil (thenN ?_)
 refine wT (ev rfl rfl) ?_
 refine wseq (wreg (wl rfl (omove (v := .int .i64 40) rfl rfl (ev rfl rfl) ?_)))
 refine wl rfl (oassign (v := .slice none 0 0) rfl rfl evc ?_)
 refine wl rfl (oassign (v := .int .i64 40) rfl rfl (ev rfl rfl) ?_)
 refine wnil (thenN ?_)
 refine wleave ?_
 refine thenR ?_
 refine wret2 Tryd.results31 (tellT (v := .slice none 0 0) rfl rfl) (tellT (v := .int .i64 40) rfl rfl) ?_
 exact ⟨_, _, rfl, isI, hS.new0⟩
theorem wxkernel2 {pm : Option Addr} {nm cm p : Nat} {M : List (List Nat)} {w : World} (ht : Tb w) (hm : MS w pm nm M) (hp2 : p < 4294967296) (hs : SmallM M) (hp : MR.Pr p) (hr : ¬ RectM M) :
  Calls Tryd.prog 31 #[.slice pm nm cm, .int .u32 ((p : Nat) : Int)] w (Ret (Is (.tuple #[.slice none 0 0, .int .i64 2])) w) := by
 have hS := Sep.init w
 refine went Tryd.func31 rfl (n := 77) rfl rfl ?_
 refine wseq (wreg (wl rfl (oassign (v := .slice none 0 0) rfl rfl evc ?_)))
 refine wl rfl (oassign (v := .int .i64 0) rfl rfl evc ?_)
 refine wnil (thenN (wseq (wreg (wl rfl (omove (v := .int .u32 (p : Int)) rfl rfl (ev rfl rfl) ?_)))))
 refine wl rfl (omove (v := .slice pm nm cm) rfl rfl (ev rfl rfl) ?_)
 refine wl rfl (obslice (ps := #[(0, .slice pm nm cm)]) (z := .slice none 0 0) [.slice pm nm cm] hS rfl rfl Tryd.runUnderlying81 Tryd.sizeOf26 Tryd.zeroValue26 (parts1 (ev (v := .slice pm nm cm) rfl rfl)) rfl (by decide) (fill1_1s rfl rfl) ?_)
 clear hS; intro g1 w2 hS
 refine wl rfl (ocall rfl rfl Tryd.call45 rfl (wxallE (ht.at hS) (LMS.one (hS.blkAt 0 rfl) (hm.at hS)) hp2 (by omega) (fun N h => by rw [List.mem_singleton.1 h]; exact hs) (hp) (fun h => hr (h M (by simp)))) (args2 (ev rfl rfl) (ev rfl rfl)) ?_)
 rintro _ w3 ⟨_, _, rfl, ⟨rfl, rfl⟩, hN⟩
 refine ⟨_, rfl, ?_⟩
 replace hS := hS.news hN; clear hN
 refine wl rfl (omove (v := .tuple #[.slice none 0 0, .int .i64 2]) rfl rfl (ev rfl rfl) ?_)
 refine wl rfl (oextract (vs := [.slice none 0 0, .int .i64 2]) (v := .slice none 0 0) rfl rfl (ev rfl rfl) rfl ?_)
 refine wl rfl (oextract (vs := [.slice none 0 0, .int .i64 2]) (v := .int .i64 2) rfl rfl (ev rfl rfl) rfl ?_)
 refine wl rfl (oassign (v := .slice none 0 0) rfl rfl (ev rfl rfl) ?_)
 refine wl rfl (oassign (v := .int .i64 2) rfl rfl (ev rfl rfl) ?_)
 refine wnil (thenN (wseq (wseq (wreg (wl rfl (omove (v := .int .i64 2) rfl rfl (ev rfl rfl) ?_))))))
 refine wl rfl (obin (u := .int .i64 2) (v := .int .i64 0) (z := .bool true) rfl rfl (ev rfl rfl) evc (bin_neq (by decide)) ?_)
 refine wnil (thenN ?_)
 refine wT (ev rfl rfl) ?_
 refine wseq (wreg (wl rfl (omove (v := .int .i64 2) rfl rfl (ev rfl rfl) ?_)))
 refine wl rfl (oassign (v := .slice none 0 0) rfl rfl evc ?_)
 refine wl rfl (oassign (v := .int .i64 2) rfl rfl (ev rfl rfl) ?_)
 refine wnil (thenN ?_)
 refine wleave ?_
 refine thenR ?_
 refine wret2 Tryd.results31 (tellT (v := .slice none 0 0) rfl rfl) (tellT (v := .int .i64 2) rfl rfl) ?_
 exact ⟨_, _, rfl, isI, hS.new0⟩
theorem wxkernel {pm : Option Addr} {nm cm p : Nat} {M : List (List Nat)} {w : World} (ht : Tb w) (hm : MS w pm nm M) (hp2 : p < 4294967296) (hs : SmallM M) (hp : MR.Pr p) (hr : RectM M) :
  Calls Tryd.prog 31 #[.slice pm nm cm, .int .u32 ((p : Nat) : Int)] w (Ret (MmE (kerP p M) 0) w) := by
 have hcb := hs.cols
 have hnb := hs.1
 have hp1 := hp.1
 have hp0 : 0 < p := by omega
 have hshM := hr.shp hp0
 have hS := Sep.init w
 refine went Tryd.func31 rfl (n := 77) rfl rfl ?_
 refine wseq (wreg (wl rfl (oassign (v := .slice none 0 0) rfl rfl evc ?_)))
 refine wl rfl (oassign (v := .int .i64 0) rfl rfl evc ?_)
 refine wnil (thenN (wseq (wreg (wl rfl (omove (v := .int .u32 (p : Int)) rfl rfl (ev rfl rfl) ?_)))))
 refine wl rfl (omove (v := .slice pm nm cm) rfl rfl (ev rfl rfl) ?_)
 refine wl rfl (obslice (ps := #[(0, .slice pm nm cm)]) (z := .slice none 0 0) [.slice pm nm cm] hS rfl rfl Tryd.runUnderlying81 Tryd.sizeOf26 Tryd.zeroValue26 (parts1 (ev (v := .slice pm nm cm) rfl rfl)) rfl (by decide) (fill1_1s rfl rfl) ?_)
 clear hS; intro g1 w2 hS
 refine wl rfl (ocall rfl rfl Tryd.call45 rfl (wxall1 (ht.at hS) (hS.blkAt 0 rfl) (hm.at hS) (hp) hp2 (hs) (hr)) (args2 (ev rfl rfl) (ev rfl rfl)) ?_)
 rintro _ w3 ⟨_, _, rfl, ⟨pL, cL, pX, cX, QX, hQX, rfl, rfl⟩, hN⟩
 refine ⟨_, rfl, ?_⟩
 replace hS := hS.news hN; clear hN
 refine wl rfl (omove (v := .tuple #[.slice pL 1 cL, .int .i64 0]) rfl rfl (ev rfl rfl) ?_)
 refine wl rfl (oextract (vs := [.slice pL 1 cL, .int .i64 0]) (v := .slice pL 1 cL) rfl rfl (ev rfl rfl) rfl ?_)
 refine wl rfl (oextract (vs := [.slice pL 1 cL, .int .i64 0]) (v := .int .i64 0) rfl rfl (ev rfl rfl) rfl ?_)
 refine wl rfl (oassign (v := .slice pL 1 cL) rfl rfl (ev rfl rfl) ?_)
 refine wl rfl (oassign (v := .int .i64 0) rfl rfl (ev rfl rfl) ?_)
 refine wnil (thenN (wseq (wseq (wreg (wl rfl (omove (v := .int .i64 0) rfl rfl (ev rfl rfl) ?_))))))
 refine wl rfl (obin (u := .int .i64 0) (v := .int .i64 0) (z := .bool false) rfl rfl (ev rfl rfl) evc (bin_neq (by decide)) ?_)
 refine wnil (thenN ?_)
 refine wF (ev rfl rfl) ?_
 refine wskip (thenN (wseq (wreg (wl rfl (omove (v := .slice pL 1 cL) rfl rfl (ev rfl rfl) ?_)))))
 obtain ⟨gl4, hgl4⟩ := hS.lstPtr 1 rfl (by omega)
 refine wl rfl (oindex (p := pL) (g := gl4) (off := 0) (m := 1) (k := 0) (j := 0) rfl rfl Tryd.runUnderlying73 Tryd.sizeOf63 (ev rfl rfl) (hgl4) evc (by omega) rfl ?_)
 refine wl rfl (oloadA (vs := [.int .u64 (p : Int), .slice pX M.length cX, .int .i64 (((colsM M : Nat) : Int))]) (show Agg Tryd.prog 63 3 from ⟨Tryd.isAgg63, Tryd.sizeOf63⟩) rfl rfl (ev (v := .pointer (some ⟨gl4, 0, none⟩)) rfl rfl) (hS.lstAtA 1 rfl hgl4 0 rfl (by omega) rfl) rfl ?_)
 refine wl rfl (oalloc [.int .u64 0, .slice none 0 0, .int .i64 0] hS rfl rfl Tryd.zeroValue63 rfl ?_)
 clear hS; intro g5 w6 hS
 refine wl rfl (ostore [.int .u64 (p : Int), .slice pX M.length cX, .int .i64 (((colsM M : Nat) : Int))] [.int .u64 (p : Int), .slice pX M.length cX, .int .i64 (((colsM M : Nat) : Int))] Tryd.sizeOf63 hS 0 rfl rfl (ev rfl rfl) (ev (v := .agg #[.int .u64 (p : Int), .slice pX M.length cX, .int .i64 (((colsM M : Nat) : Int))]) rfl rfl) rfl rfl rfl rfl rfl rfl ?_)
 clear hS; intro w7 hS
 refine wnil (thenN (wseq (wreg (wl rfl (oload (vs := [.int .u64 (p : Int), .slice pX M.length cX, .int .i64 (((colsM M : Nat) : Int))]) (show Agg Tryd.prog 63 3 from ⟨Tryd.isAgg63, Tryd.sizeOf63⟩) hS 0 rfl rfl (ev rfl rfl) rfl rfl rfl ?_)))))
 refine wl rfl (ofieldAddr (g := g5) (off := 0) 2 rfl rfl (ev rfl rfl) Tryd.runUnderlying63 rfl Tryd.sizeOf3 rfl ?_)
 refine wl rfl (oload1 (v := .int .i64 (((colsM M : Nat) : Int))) oneI hS 0 rfl rfl (ev rfl rfl) rfl rfl ?_)
 obtain hS := (show Sep w [.lst 52 1 pX M.length cX (mmE QX), .blk g5 [.int .u64 (((p : Nat) : Int)), .slice pX M.length cX, .int .i64 (((colsM M : Nat) : Int))] 63, .lst 63 3 pL 1 cL ([⟨[.int .u64 ((p : Nat) : Int), .slice pX M.length cX, .int .i64 ((colsM M : Nat) : Int)], []⟩]), .blk g1 [.slice pm nm cm] 26] w7 from hS.pick [1, 0, 2, 3] (by decide) rfl)
 refine wl rfl (ocall rfl rfl Tryd.call42 rfl (wxreduce ht hp hp2 hS (by rw [hQX]; exact hshM) (by omega) (by omega) (by omega)) (args2 (ev rfl rfl) (ev rfl rfl)) ?_)
 rintro _ w8 ⟨_, _, rfl, ⟨pP, cP, PP, DP, QR, hRR, hDP, rfl, rfl⟩, hN⟩
 refine ⟨_, rfl, ?_⟩
 clear hS; have hS := hN; clear hN
 refine wl rfl (omove (v := .tuple #[.slice pP PP.length cP, .int .u32 (DP : Int)]) rfl rfl (ev rfl rfl) ?_)
 refine wl rfl (oextract (vs := [.slice pP PP.length cP, .int .u32 (DP : Int)]) (v := .slice pP PP.length cP) rfl rfl (ev rfl rfl) rfl ?_)
 refine wl rfl (oextract (vs := [.slice pP PP.length cP, .int .u32 (DP : Int)]) (v := .int .u32 (DP : Int)) rfl rfl (ev rfl rfl) rfl ?_)
 refine wl rfl (oassign (v := .slice pP PP.length cP) rfl rfl (ev rfl rfl) ?_)
 refine wl rfl (oassign (v := .int .u32 (DP : Int)) rfl rfl (ev rfl rfl) ?_)
 refine wnil (thenN (wseq (wreg (wl rfl (oassign (v := .slice none 0 0) rfl rfl evc ?_)))))
 refine wnil (thenN (wseq (wseq (wreg (wl rfl (ofieldAddr (g := g5) (off := 0) 2 rfl rfl (ev rfl rfl) Tryd.runUnderlying63 rfl Tryd.sizeOf3 rfl ?_))))))
 refine wl rfl (oload1 (v := .int .i64 (((colsM M : Nat) : Int))) oneI hS 2 rfl rfl (ev rfl rfl) rfl rfl ?_)
 refine wl rfl (omove (v := .int .i64 0) rfl rfl evc ?_)
 refine wnil (thenN (wblock ?_))
 rw [hQX] at hRR
 obtain ⟨i1, i2, i3, i4, i5⟩ := redTo_inv hshM hp0 (colsM M)
 rw [hRR] at i1 i2 i3 i4 i5
 simp only at i1 i2 i3 i4 i5
 rw [modM_len] at i1 i3
 have hQRl : QR.length = M.length := by rw [← nums_len]; exact i1
 replace hS := hS.nilLst 52 1
 refine wloop (σ := Nat) (fun c a9 w' => ∃ (fb : Nat → Value) (Qo : List Rw) (kn : Nat) (pO : Option Addr) (cO : Nat), a9 = act 77 (sets fb [(4, .slice none 0 0), (5, .int .i64 0), (8, .pointer (some ⟨g5, 0, none⟩)), (9, .slice pP PP.length cP), (11, .slice pO kn cO), (37, .int .i64 (((colsM M : Nat) : Int))), (38, .int .i64 (c : Int))]) ∧ Sep w [.lst 52 1 pO kn cO (mmE Qo), .lst 3 1 pP PP.length cP (intE PP), .lst 52 1 pX M.length cX (mmE QR), .blk g5 [.int .u64 (p : Int), .slice pX M.length cX, .int .i64 (((colsM M : Nat) : Int))] 63, .lst 63 3 pL 1 cL ([⟨[.int .u64 (p : Int), .slice pX M.length cX, .int .i64 ((colsM M : Nat) : Int)], []⟩]), .blk g1 [.slice pm nm cm] 26] w' ∧ (c ≤ colsM M) ∧ (nums Qo = kerM p (colsM M) (nums QR) PP c) ∧ (kn = (kerM p (colsM M) (nums QR) PP c).length)) (fun c => colsM M - c) (0) ⟨_, [], 0, none, 0, act_sets (l := [(4, .slice none 0 0), (5, .int .i64 0), (8, .pointer (some ⟨g5, 0, none⟩)), (9, .slice pP PP.length cP), (11, .slice none 0 0), (37, .int .i64 (((colsM M : Nat) : Int))), (38, .int .i64 0)]) ⟨rfl, rfl, rfl, rfl, rfl, rfl, rfl, trivial⟩, hS, Nat.zero_le _, rfl, rfl⟩ ?_
 clear hS; rintro c _ w9 ⟨fb, Qo, kn, pO, cO, rfl, hS, hc, hQ, hkn⟩
 refine wseq (wreg ?_)
 have hkl := kerM_le (p := p) (C := colsM M) (R := nums QR) (P := PP) c
 by_cases hlt : c < colsM M
 ·
  refine wl rfl (obin (u := .int .i64 (c : Int)) (v := .int .i64 (((colsM M : Nat) : Int))) (z := .bool true) rfl rfl (ev rfl rfl) (ev rfl rfl) (bin_lss (decide_eq_true (by omega))) ?_)
  refine wnil (thenN (wseq ?_))
  refine wT (ev rfl rfl) ?_
  refine wskip (thenN (wseq (wblock (wseq (wreg (wl rfl (omove (v := .int .i64 (c : Int)) rfl rfl (ev rfl rfl) ?_)))))))
  refine wl rfl (oassign (v := .int .i64 (c : Int)) rfl rfl (ev rfl rfl) ?_)
  refine wnil (thenN (wseq (wseq (wreg (wl rfl (omove (v := .slice pP PP.length cP) rfl rfl (ev rfl rfl) ?_))))))
  refine wl rfl (omove (v := .int .i64 (c : Int)) rfl rfl (ev rfl rfl) ?_)
  by_cases hcP : c ∈ PP
  ·
   refine wl rfl (ocall rfl rfl Tryd.call54 rfl (wcontY (hS.si 1 rfl (by simp only [maxLen]; omega)) (by omega) hcP) (args2 (ev rfl rfl) (ev rfl rfl)) ?_)
   rintro _ w10 ⟨_, _, rfl, ⟨rfl, rfl⟩, hN⟩
   refine ⟨_, rfl, ?_⟩
   replace hS := hS.news hN; clear hN
   refine wnil (thenN ?_)
   refine wT (ev rfl rfl) ?_
   refine wexit ?_
   refine thenE ?_
   refine blkE ?_
   refine thenN (wreg (wl rfl (obin (u := .int .i64 (c : Int)) (v := .int .i64 1) (z := .int .i64 (((c + 1 : Nat) : Int))) rfl rfl (ev rfl rfl) evc (bin_add (wrap_i64 (by omega) (by omega))) ?_)))
   refine wl rfl (omove (v := .int .i64 (((c + 1 : Nat) : Int))) rfl rfl (ev rfl rfl) ?_)
   refine wnil (thenN ?_)
   exact ⟨(c + 1), ⟨_, _, _, _, _, act_sets (l := [(4, .slice none 0 0), (5, .int .i64 0), (8, .pointer (some ⟨g5, 0, none⟩)), (9, .slice pP PP.length cP), (11, .slice pO kn cO), (37, .int .i64 (((colsM M : Nat) : Int))), (38, .int .i64 (((c + 1 : Nat) : Int)))]) ⟨rfl, rfl, rfl, rfl, rfl, rfl, rfl, trivial⟩, hS.pick [0, 1, 2, 3, 4, 5] (by decide) rfl, by omega, by rw [kerM, if_pos hcP]; exact hQ, by rw [kerM, if_pos hcP]; exact hkn⟩, by omega⟩
  ·
   refine wl rfl (ocall rfl rfl Tryd.call54 rfl (wcontN (hS.si 1 rfl (by simp only [maxLen]; omega)) (by omega) hcP) (args2 (ev rfl rfl) (ev rfl rfl)) ?_)
   rintro _ w10 ⟨_, _, rfl, ⟨rfl, rfl⟩, hN⟩
   refine ⟨_, rfl, ?_⟩
   replace hS := hS.news hN; clear hN
   refine wnil (thenN ?_)
   refine wF (ev rfl rfl) ?_
   refine wskip (thenN (wseq (wreg (wl rfl (ofieldAddr (g := g5) (off := 0) 2 rfl rfl (ev rfl rfl) Tryd.runUnderlying63 rfl Tryd.sizeOf3 rfl ?_)))))
   refine wl rfl (oload1 (v := .int .i64 (((colsM M : Nat) : Int))) oneI hS 3 rfl rfl (ev rfl rfl) rfl rfl ?_)
   refine wl rfl (omakeL (zs := [.int .u32 0]) (k := colsM M) (m := colsM M) hS rfl rfl Tryd.underlying52 infouint32 rfl rfl (by decide) rfl (ev (v := .int .i64 (((colsM M : Nat) : Int))) rfl rfl) (ev (v := .int .i64 (((colsM M : Nat) : Int))) rfl rfl) (by omega) (by omega) (by omega) ?_)
   clear hS; intro g11 w12 hS
   refine wl rfl (oassign (v := .slice (some ⟨g11, 0, none⟩) (colsM M) (colsM M)) rfl rfl (ev rfl rfl) ?_)
   refine wnil (thenN (wseq (wreg (wl rfl (omove (v := .slice (some ⟨g11, 0, none⟩) (colsM M) (colsM M)) rfl rfl (ev rfl rfl) ?_)))))
   refine wl rfl (omove (v := .int .i64 (c : Int)) rfl rfl (ev rfl rfl) ?_)
   obtain hS := (show Sep w [.lst 27 1 (some ⟨g11, 0, none⟩) (colsM M) (colsM M) (u32E (List.replicate (colsM M) 0)), .lst 52 1 pO kn cO (mmE Qo), .lst 3 1 pP PP.length cP (intE PP), .lst 52 1 pX M.length cX (mmE QR), .blk g5 [.int .u64 (p : Int), .slice pX M.length cX, .int .i64 (((colsM M : Nat) : Int))] 63, .lst 63 3 pL 1 cL ([⟨[.int .u64 (p : Int), .slice pX M.length cX, .int .i64 ((colsM M : Nat) : Int)], []⟩]), .blk g1 [.slice pm nm cm] 26] w12 from by rw [u32E_rep]; exact hS).lstRow (lims_zeros _)
   refine wl rfl (oindex (p := (some ⟨g11, 0, none⟩)) (g := g11) (off := 0) (m := colsM M) (k := c) (j := c) rfl rfl Tryd.runUnderlying52 Tryd.sizeOf27 (ev rfl rfl) (rfl) (ev rfl rfl) (by omega) (by simp) ?_)
   refine wl rfl (ostoreRow (i := c) (u := 1) Tryd.sizeOf27 hS 0 rfl rfl (ev (v := .pointer (some ⟨g11, c, none⟩)) rfl rfl) (evc (v := .int .u32 ((1 : Nat) : Int))) rfl (rfl) ((by omega)) (by omega) ?_)
   clear hS; intro w13 hS
   refine wnil (thenN (wseq (wseq (wreg (wl rfl (omove (v := .slice pP PP.length cP) rfl rfl (ev rfl rfl) ?_))))))
   refine wl rfl (olen rfl rfl rfl Tryd.runUnderlying35 (p := pP) (k := PP.length) (m := cP) (ev rfl rfl) ?_)
   refine wl rfl (omove (v := .int .i64 0) rfl rfl evc ?_)
   refine wnil (thenN (wblock ?_))
   rw [show (List.replicate (colsM M) 0).set c 1 = kerTo p (colsM M) (nums QR) PP c 0 from rfl] at hS
   refine wloop (σ := Nat) (fun i a9 w' => ∃ (fb : Nat → Value), a9 = act 77 (sets fb [(4, .slice none 0 0), (5, .int .i64 0), (8, .pointer (some ⟨g5, 0, none⟩)), (9, .slice pP PP.length cP), (11, .slice pO kn cO), (12, .int .i64 (c : Int)), (13, .slice (some ⟨g11, 0, none⟩) (colsM M) (colsM M)), (37, .int .i64 (((colsM M : Nat) : Int))), (38, .int .i64 (c : Int)), (50, .slice pP PP.length cP), (51, .int .i64 (PP.length : Int)), (52, .int .i64 (i : Int))]) ∧ Sep w [.rowm (some ⟨g11, 0, none⟩) (colsM M) (colsM M) (kerTo p (colsM M) (nums QR) PP c i), .lst 52 1 pO kn cO (mmE Qo), .lst 3 1 pP PP.length cP (intE PP), .lst 52 1 pX M.length cX (mmE QR), .blk g5 [.int .u64 (p : Int), .slice pX M.length cX, .int .i64 (((colsM M : Nat) : Int))] 63, .lst 63 3 pL 1 cL ([⟨[.int .u64 (p : Int), .slice pX M.length cX, .int .i64 ((colsM M : Nat) : Int)], []⟩]), .blk g1 [.slice pm nm cm] 26] w' ∧ (i ≤ PP.length)) (fun i => PP.length - i) (0) ⟨_, act_sets (l := [(4, .slice none 0 0), (5, .int .i64 0), (8, .pointer (some ⟨g5, 0, none⟩)), (9, .slice pP PP.length cP), (11, .slice pO kn cO), (12, .int .i64 (c : Int)), (13, .slice (some ⟨g11, 0, none⟩) (colsM M) (colsM M)), (37, .int .i64 (((colsM M : Nat) : Int))), (38, .int .i64 (c : Int)), (50, .slice pP PP.length cP), (51, .int .i64 (PP.length : Int)), (52, .int .i64 0)]) ⟨rfl, rfl, rfl, rfl, rfl, rfl, rfl, rfl, rfl, rfl, rfl, rfl, trivial⟩, hS, Nat.zero_le _⟩ ?_
   clear hS; rintro i _ w14 ⟨fb, rfl, hS, hi⟩
   refine wseq (wreg ?_)
   by_cases hli : i < PP.length
   ·
    refine wl rfl (obin (u := .int .i64 (i : Int)) (v := .int .i64 (PP.length : Int)) (z := .bool true) rfl rfl (ev rfl rfl) (ev rfl rfl) (bin_lss (decide_eq_true (by omega))) ?_)
    refine wnil (thenN (wseq ?_))
    refine wT (ev rfl rfl) ?_
    refine wskip (thenN (wseq (wblock (wseq (wreg (wl rfl (omove (v := .int .i64 (i : Int)) rfl rfl (ev rfl rfl) ?_)))))))
    obtain ⟨gT, hgT⟩ := hS.lstPtr 2 rfl (by omega)
    refine wl rfl (oindex (p := pP) (g := gT) (off := 0) (m := PP.length) (k := i) (j := i) rfl rfl Tryd.runUnderlying35 Tryd.sizeOf3 (ev rfl rfl) (hgT) (ev rfl rfl) (by omega) (by simp) ?_)
    refine wl rfl (oloadc (v := .int .i64 (((nd PP i : Nat) : Int))) oneI rfl rfl (ev (v := .pointer (some ⟨gT, i, none⟩)) rfl rfl) (hS.lstAt 2 rfl hgT i 0 (intE_get (by omega)) rfl (by decide) (by simp)) ?_)
    refine wl rfl (oassign (v := .int .i64 (i : Int)) rfl rfl (ev rfl rfl) ?_)
    refine wl rfl (oassign (v := .int .i64 (((nd PP i : Nat) : Int))) rfl rfl (ev rfl rfl) ?_)
    refine wnil (thenN ?_)
    have hq : nd PP i < colsM M := i5 _ (by rw [nd_get (by omega)]; exact List.getElem_mem _)
    obtain ⟨gR, hgR⟩ := hS.lstPtr 3 rfl (by omega)
    obtain ⟨⟨pa, ca, xa⟩, hqa⟩ : ∃ q, (QR)[i]? = some q := ⟨_, List.getElem?_eq_getElem (by omega)⟩
    have hda : (nums (QR)).getD i [] = xa := getD_get (nums_get hqa)
    obtain ⟨hna, hlta⟩ := i2.get (nums_get hqa)
    simp only at hna hlta
    obtain ⟨ga, hga⟩ := hS.mPtr 3 rfl hqa (by show 0 < xa.length; omega)
    have hla := nd_lt (k := c) hlta hp0
    have hm9 := mod_lt32 (a := 0 + p - nd xa c) hp0 hp2
    refine wstage 13 [57, 58, 59, 60, 61, 62, 63, 64, 65, 66, 67, 68, 69] [[], [], [], [], [3], [], [4, 5, 3], [6, 3, 4, 5], [], [7, 8, 3, 4, 5, 6], [9, 3, 4, 5, 6, 7, 8], [2, 10, 3, 4, 5, 6, 7, 8, 9], [0, 1, 2, 3, 4, 5, 6, 7, 8, 9, 10, 11]] [[], [], [], [], [], [], [], [], [], [], [], [], []] [] [] (fun i9 => ([fun _ => Is (.slice (some ⟨g11, 0, none⟩) (colsM M) (colsM M)), fun _ => Is (.int .i64 (((nd PP i : Nat) : Int))), fun _ => Is (.agg #[.int .u64 (p : Int), .slice pX M.length cX, .int .i64 (((colsM M : Nat) : Int))]), fun _ => Is (.pointer (some ⟨g5, 1, none⟩)), fun _ => Is (.slice pX M.length cX), fun _ => Is (.int .i64 (i : Int)), fun _ => Is (.pointer (some ⟨gR, (0 + i * 1), none⟩)), fun _ => Is (.slice pa (colsM M) ca), fun _ => Is (.int .i64 (c : Int)), fun _ => Is (.pointer (some ⟨ga, c, none⟩)), fun _ => Is (.int .u32 (((nd xa c : Nat) : Int))), fun _ => Is (.int .u32 ((((0 + p - (nd xa c)) % p : Nat) : Int))), fun _ => Is (.pointer (some ⟨g11, nd PP i, none⟩))] : List (List Value → Tell)).getD i9 (fun _ _ _ => False)) (heldNil) (fun d _ _ _ _ h => (by cases d <;> exact h)) (by kernel_rfl) (by kernel_rfl) (by kernel_rfl) hS ?_ ?_
    ·
     refine stepsCons rfl (fun Q f' w' ρ S ho hT hS hB => ?_) ?_
     ·exact .inl ⟨want_none rfl, omove (v := .slice (some ⟨g11, 0, none⟩) (colsM M) (colsM M)) rfl rfl (ev rfl (ho 13 rfl)) ⟨_, _, rfl, isI, New.same _⟩⟩
     refine stepsCons rfl (fun Q f' w' ρ S ho hT hS hB => ?_) ?_
     ·exact .inl ⟨want_none rfl, omove (v := .int .i64 (((nd PP i : Nat) : Int))) rfl rfl (ev rfl (ho 15 rfl)) ⟨_, _, rfl, isI, New.same _⟩⟩
     refine stepsCons rfl (fun Q f' w' ρ S ho hT hS hB => ?_) ?_
     ·exact .inl ⟨want_none rfl, oload (vs := [.int .u64 (p : Int), .slice pX M.length cX, .int .i64 (((colsM M : Nat) : Int))]) (show Agg Tryd.prog 63 3 from ⟨Tryd.isAgg63, Tryd.sizeOf63⟩) hS 4 rfl rfl (ev rfl (ho 8 rfl)) rfl rfl rfl ⟨_, _, rfl, isI, New.same _⟩⟩
     refine stepsCons rfl (fun Q f' w' ρ S ho hT hS hB => ?_) ?_
     ·exact .inl ⟨want_none rfl, ofieldAddr (g := g5) (off := 0) 1 rfl rfl (ev rfl (ho 8 rfl)) Tryd.runUnderlying63 rfl Tryd.sizeOf25 rfl ⟨_, _, rfl, isI, New.same _⟩⟩
     refine stepsCons rfl (fun Q f' w' ρ S ho hT hS hB => ?_) ?_
     ·obtain ⟨hv3, hr3⟩ := (hT 3 60 rfl rfl : (Is (.pointer (some ⟨g5, 1, none⟩))) _ _)
      obtain hS := hS.flat1 hr3
      exact .inl ⟨want_none rfl, oload1 (v := .slice pX M.length cX) (show One Tryd.prog 25 from ⟨Tryd.isAgg25, Tryd.sizeOf25⟩) hS 4 rfl rfl (ev rfl hv3) rfl rfl ⟨_, _, rfl, isI, New.same _⟩⟩
     refine stepsCons rfl (fun Q f' w' ρ S ho hT hS hB => ?_) ?_
     ·exact .inl ⟨want_none rfl, omove (v := .int .i64 (i : Int)) rfl rfl (ev rfl (ho 14 rfl)) ⟨_, _, rfl, isI, New.same _⟩⟩
     refine stepsCons rfl (fun Q f' w' ρ S ho hT hS hB => ?_) ?_
     ·obtain ⟨hv4, hr4⟩ := (hT 4 61 rfl rfl : (Is (.slice pX M.length cX)) _ _)
      obtain ⟨hv5, hr5⟩ := (hT 5 62 rfl rfl : (Is (.int .i64 (((i : Nat) : Int)))) _ _)
      obtain hS := hS.flat2 hr4 hr5
      exact .inl ⟨want_none rfl, oindex (p := pX) (g := gR) (off := 0) (m := M.length) (k := i) (j := (0 + i * 1)) rfl rfl Tryd.runUnderlying25 Tryd.sizeOf52 (ev rfl hv4) (hgR) (ev rfl hv5) (by omega) rfl ⟨_, _, rfl, isI, New.same _⟩⟩
     refine stepsCons rfl (fun Q f' w' ρ S ho hT hS hB => ?_) ?_
     ·obtain ⟨hv6, hr6⟩ := (hT 6 63 rfl rfl : (Is (.pointer (some ⟨gR, (0 + i * 1), none⟩))) _ _)
      obtain hS := hS.flat1 hr6
      exact .inl ⟨want_none rfl, oloadc (v := .slice pa (colsM M) ca) (show One Tryd.prog 52 from ⟨Tryd.isAgg52, Tryd.sizeOf52⟩) rfl rfl (ev (v := .pointer (some ⟨gR, (0 + i * 1), none⟩)) rfl hv6) (hS.mRow 3 rfl hqa hna hgR) ⟨_, _, rfl, isI, New.same _⟩⟩
     refine stepsCons rfl (fun Q f' w' ρ S ho hT hS hB => ?_) ?_
     ·exact .inl ⟨want_none rfl, omove (v := .int .i64 (c : Int)) rfl rfl (ev rfl (ho 12 rfl)) ⟨_, _, rfl, isI, New.same _⟩⟩
     refine stepsCons rfl (fun Q f' w' ρ S ho hT hS hB => ?_) ?_
     ·obtain ⟨hv7, hr7⟩ := (hT 7 64 rfl rfl : (Is (.slice pa (colsM M) ca)) _ _)
      obtain ⟨hv8, hr8⟩ := (hT 8 65 rfl rfl : (Is (.int .i64 (((c : Nat) : Int)))) _ _)
      obtain hS := hS.flat2 hr7 hr8
      exact .inl ⟨want_none rfl, oindex (p := pa) (g := ga) (off := 0) (m := colsM M) (k := c) (j := c) rfl rfl Tryd.runUnderlying52 Tryd.sizeOf27 (ev rfl hv7) (hga) (ev rfl hv8) (by omega) (by simp) ⟨_, _, rfl, isI, New.same _⟩⟩
     refine stepsCons rfl (fun Q f' w' ρ S ho hT hS hB => ?_) ?_
     ·obtain ⟨hv9, hr9⟩ := (hT 9 66 rfl rfl : (Is (.pointer (some ⟨ga, c, none⟩))) _ _)
      obtain hS := hS.flat1 hr9
      exact .inl ⟨want_none rfl, oloadc (v := .int .u32 (((nd xa c : Nat) : Int))) one32 rfl rfl (ev (v := .pointer (some ⟨ga, c, none⟩)) rfl hv9) (hS.mCell 3 rfl hqa hga (by omega)) ⟨_, _, rfl, isI, New.same _⟩⟩
     refine stepsCons rfl (fun Q f' w' ρ S ho hT hS hB => ?_) ?_
     ·obtain ⟨hv2, hr2⟩ := (hT 2 59 rfl rfl : (Is (.agg #[.int .u64 (((p : Nat) : Int)), .slice pX M.length cX, .int .i64 (((colsM M : Nat) : Int))])) _ _)
      obtain ⟨hv10, hr10⟩ := (hT 10 67 rfl rfl : (Is (.int .u32 (((nd xa c : Nat) : Int)))) _ _)
      obtain hS := hS.flat2 hr2 hr10
      exact .inl ⟨want_none rfl, ocall rfl rfl Tryd.call55 rfl (wxsub (a := 0) (b := (nd xa c)) hp0 hp2 (by omega) (by omega) (by omega)) (args3 (ev rfl hv2) evc (ev rfl hv10)) callN⟩
     refine stepsCons rfl (fun Q f' w' ρ S ho hT hS hB => ?_) ?_
     ·obtain ⟨hv0, hr0⟩ := (hT 0 57 rfl rfl : (Is (.slice (some ⟨g11, 0, none⟩) (colsM M) (colsM M))) _ _)
      obtain ⟨hv1, hr1⟩ := (hT 1 58 rfl rfl : (Is (.int .i64 (((nd PP i : Nat) : Int)))) _ _)
      obtain hS := hS.flat2 hr0 hr1
      exact .inl ⟨want_none rfl, oindex (p := (some ⟨g11, 0, none⟩)) (g := g11) (off := 0) (m := colsM M) (k := (nd PP i)) (j := nd PP i) rfl rfl Tryd.runUnderlying52 Tryd.sizeOf27 (ev rfl hv0) (rfl) (ev rfl hv1) (by omega) (by simp) ⟨_, _, rfl, isI, New.same _⟩⟩
     exact stepsNil
    ·
     intro vs ρ w15 f' hf hT hS
     obtain ⟨hv0, hr0⟩ := (hT 0 (by decide) : (Is (.slice (some ⟨g11, 0, none⟩) (colsM M) (colsM M))) _ _)
     obtain ⟨hv1, hr1⟩ := (hT 1 (by decide) : (Is (.int .i64 (((nd PP i : Nat) : Int)))) _ _)
     obtain ⟨hv2, hr2⟩ := (hT 2 (by decide) : (Is (.agg #[.int .u64 (((p : Nat) : Int)), .slice pX M.length cX, .int .i64 (((colsM M : Nat) : Int))])) _ _)
     obtain ⟨hv3, hr3⟩ := (hT 3 (by decide) : (Is (.pointer (some ⟨g5, 1, none⟩))) _ _)
     obtain ⟨hv4, hr4⟩ := (hT 4 (by decide) : (Is (.slice pX M.length cX)) _ _)
     obtain ⟨hv5, hr5⟩ := (hT 5 (by decide) : (Is (.int .i64 (((i : Nat) : Int)))) _ _)
     obtain ⟨hv6, hr6⟩ := (hT 6 (by decide) : (Is (.pointer (some ⟨gR, (0 + i * 1), none⟩))) _ _)
     obtain ⟨hv7, hr7⟩ := (hT 7 (by decide) : (Is (.slice pa (colsM M) ca)) _ _)
     obtain ⟨hv8, hr8⟩ := (hT 8 (by decide) : (Is (.int .i64 (((c : Nat) : Int)))) _ _)
     obtain ⟨hv9, hr9⟩ := (hT 9 (by decide) : (Is (.pointer (some ⟨ga, c, none⟩))) _ _)
     obtain ⟨hv10, hr10⟩ := (hT 10 (by decide) : (Is (.int .u32 (((nd xa c : Nat) : Int)))) _ _)
     obtain ⟨hv11, hr11⟩ := (hT 11 (by decide) : (Is (.int .u32 ((((0 + p - (nd xa c)) % p : Nat) : Int)))) _ _)
     obtain ⟨hv12, hr12⟩ := (hT 12 (by decide) : (Is (.pointer (some ⟨g11, nd PP i, none⟩))) _ _)
     simp only [pool, if_true, hr0, hr1, hr2, hr3, hr4, hr5, hr6, hr7, hr8, hr9, hr10, hr11, hr12, List.nil_append, List.cons_append, List.append_nil] at hS
     simp only [layf, hv0, hv1, hv2, hv3, hv4, hv5, hv6, hv7, hv8, hv9, hv10, hv11, hv12] at hf
     subst hf; clear hT hv0 hv1 hv2 hv3 hv4 hv5 hv6 hv7 hv8 hv9 hv10 hv11 hv12 hr0 hr1 hr2 hr3 hr4 hr5 hr6 hr7 hr8 hr9 hr10 hr11 hr12
     refine wlate 13 rfl (by kernel_rfl) (ostoreRow (i := nd PP i) (u := ((0 + p - nd xa c) % p)) Tryd.sizeOf27 hS 0 rfl rfl (ev (v := .pointer (some ⟨g11, nd PP i, none⟩)) rfl rfl) ((ev (v := .int .u32 ((((0 + p - (nd xa c)) % p : Nat) : Int))) rfl rfl)) rfl (rfl) ((by omega)) (by omega) ?_)
     clear hS; intro w16 hS
     refine ⟨heldNil, ?_⟩
     refine wdone rfl ?_
     refine blkN (thenN (wreg (wl rfl (obin (u := .int .i64 (i : Int)) (v := .int .i64 1) (z := .int .i64 (((i + 1 : Nat) : Int))) rfl rfl (ev rfl rfl) evc (bin_add (wrap_i64 (by omega) (by omega))) ?_))))
     refine wl rfl (omove (v := .int .i64 (((i + 1 : Nat) : Int))) rfl rfl (ev rfl rfl) ?_)
     refine wnil (thenN ?_)
     rw [show (kerTo p (colsM M) (nums QR) PP c i).set (nd PP i) ((0 + p - nd xa c) % p) = kerTo p (colsM M) (nums QR) PP c (i + 1) from by rw [kerTo, hda]] at hS
     exact ⟨(i + 1), ⟨_, act_sets (l := [(4, .slice none 0 0), (5, .int .i64 0), (8, .pointer (some ⟨g5, 0, none⟩)), (9, .slice pP PP.length cP), (11, .slice pO kn cO), (12, .int .i64 (c : Int)), (13, .slice (some ⟨g11, 0, none⟩) (colsM M) (colsM M)), (37, .int .i64 (((colsM M : Nat) : Int))), (38, .int .i64 (c : Int)), (50, .slice pP PP.length cP), (51, .int .i64 (PP.length : Int)), (52, .int .i64 (((i + 1 : Nat) : Int)))]) ⟨rfl, rfl, rfl, rfl, rfl, rfl, rfl, rfl, rfl, rfl, rfl, rfl, trivial⟩, hS.pick [0, 1, 2, 3, 4, 5, 6] (by decide) rfl, by omega⟩, by omega⟩
   ·
    refine wl rfl (obin (u := .int .i64 (i : Int)) (v := .int .i64 (PP.length : Int)) (z := .bool false) rfl rfl (ev rfl rfl) (ev rfl rfl) (bin_lss (decide_eq_false (by omega))) ?_)
    refine wnil (thenN (wseq ?_))
    refine wF (ev rfl rfl) ?_
    refine wexit ?_
    refine thenE ?_
    refine thenE ?_
    refine blkE ?_
    refine thenN (wreg (wl rfl (omove (v := .slice pO kn cO) rfl rfl (ev rfl rfl) ?_)))
    refine wl rfl (omove (v := .slice (some ⟨g11, 0, none⟩) (colsM M) (colsM M)) rfl rfl (ev rfl rfl) ?_)
    refine wl rfl (obslice (ps := #[(0, .slice (some ⟨g11, 0, none⟩) (colsM M) (colsM M))]) (z := .slice none 0 0) [.slice (some ⟨g11, 0, none⟩) (colsM M) (colsM M)] hS rfl rfl Tryd.runUnderlying26 Tryd.sizeOf52 Tryd.zeroValue52 (parts1 (ev (v := .slice (some ⟨g11, 0, none⟩) (colsM M) (colsM M)) rfl rfl)) rfl (by decide) (fill1_1s rfl rfl) ?_)
    clear hS; intro g15 w16 hS
    obtain rfl : i = PP.length := by omega
    obtain hS := (show Sep w [.rowm (some ⟨g11, 0, none⟩) (colsM M) (colsM M) (kerTo p (colsM M) (nums QR) PP c PP.length), .lst 52 1 pO kn cO (mmE Qo), .blk g15 [.slice (some ⟨g11, 0, none⟩) (colsM M) (colsM M)] 52, .lst 3 1 pP PP.length cP (intE PP), .lst 52 1 pX M.length cX (mmE QR), .blk g5 [.int .u64 (((p : Nat) : Int)), .slice pX M.length cX, .int .i64 (((colsM M : Nat) : Int))] 63, .lst 63 3 pL 1 cL ([⟨[.int .u64 ((p : Nat) : Int), .slice pX M.length cX, .int .i64 ((colsM M : Nat) : Int)], []⟩]), .blk g1 [.slice pm nm cm] 26] w16 from hS.pick [1, 2, 0, 3, 4, 5, 6, 7] (by decide) rfl)
    refine wl rfl (oappendL (p := pO) (m := kn) (c := cO) (g2 := g15) (c2 := 1) (off := 0) [.slice (some ⟨g11, 0, none⟩) (colsM M) (colsM M)] [.rowm (some ⟨g11, 0, none⟩) (colsM M) (colsM M) (kerTo p (colsM M) (nums QR) PP c PP.length)] hS rfl rfl Tryd.underlying26 infoRow rfl (by decide) (ev (v := .slice pO kn cO) rfl rfl) (ev (v := .slice (some ⟨g15, 0, none⟩) 1 1) rfl rfl) (fun j v hj => by rw [Nat.zero_add]; exact (blk_cell (hS.blkAt 2 rfl) j).trans hj) rfl rfl rfl (by omega) (by omega) ?_)
    clear hS; intro p18 c19 w17 hS
    refine wl rfl (oassign (v := .slice p18 ((kn + 1)) c19) rfl rfl (ev rfl rfl) ?_)
    refine wnil (blkN (thenN (wreg (wl rfl (obin (u := .int .i64 (c : Int)) (v := .int .i64 1) (z := .int .i64 (((c + 1 : Nat) : Int))) rfl rfl (ev rfl rfl) evc (bin_add (wrap_i64 (by omega) (by omega))) ?_)))))
    refine wl rfl (omove (v := .int .i64 (((c + 1 : Nat) : Int))) rfl rfl (ev rfl rfl) ?_)
    refine wnil (thenN ?_)
    rw [mmE_snoc (xs := kerTo p (colsM M) (nums QR) PP c PP.length) (n := colsM M) (kerTo_len _)] at hS
    exact ⟨(c + 1), ⟨_, _, _, _, _, act_sets (l := [(4, .slice none 0 0), (5, .int .i64 0), (8, .pointer (some ⟨g5, 0, none⟩)), (9, .slice pP PP.length cP), (11, .slice p18 ((kn + 1)) c19), (37, .int .i64 (((colsM M : Nat) : Int))), (38, .int .i64 (((c + 1 : Nat) : Int)))]) ⟨rfl, rfl, rfl, rfl, rfl, rfl, rfl, trivial⟩, hS.pick [0, 2, 3, 4, 5, 6] (by decide) rfl, by omega, by rw [nums_app, hQ, kerM, if_neg hcP], by rw [kerM, if_neg hcP, List.length_append, ← hkn]; rfl⟩, by omega⟩
 ·
  refine wl rfl (obin (u := .int .i64 (c : Int)) (v := .int .i64 (((colsM M : Nat) : Int))) (z := .bool false) rfl rfl (ev rfl rfl) (ev rfl rfl) (bin_lss (decide_eq_false (by omega))) ?_)
  refine wnil (thenN (wseq ?_))
  refine wF (ev rfl rfl) ?_
  refine wexit ?_
  refine thenE ?_
  refine thenE ?_
  refine blkE ?_
  refine thenN (wseq (wreg (wl rfl (omove (v := .slice pO kn cO) rfl rfl (ev rfl rfl) ?_))))
  refine wl rfl (oassign (v := .slice pO kn cO) rfl rfl (ev rfl rfl) ?_)
  refine wl rfl (oassign (v := .int .i64 0) rfl rfl evc ?_)
  refine wnil (thenN ?_)
  refine wleave ?_
  have hce : c = colsM M := by omega
  refine wret2 Tryd.results31 (tellT (v := .slice pO kn cO) rfl rfl) (tellT (v := .int .i64 0) rfl rfl) ?_
  have hK : kerP p M = kerM p (colsM M) (nums QR) PP c := by unfold kerP; rw [hRR, hce]
  exact ⟨_, _, rfl, ⟨pO, cO, Qo, by rw [hK]; exact hQ, by rw [hK, ← hkn], by rw [hK, ← hkn]⟩, hS.newR 0 rfl rfl⟩
end Go.Proofs.YtndilfigdbenoaaDoor
