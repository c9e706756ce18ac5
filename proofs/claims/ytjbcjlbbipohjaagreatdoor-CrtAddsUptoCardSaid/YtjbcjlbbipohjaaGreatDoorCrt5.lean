
/-
  The document's record of pairs, and what the law does with lists.
-/
import Derived.Test.YtjbcjlbbipohjaaGreatDoorCrt4
import Derived.Laws.StructEq
set_option linter.unusedVariables false
set_option linter.unusedSimpArgs false
set_option maxRecDepth 100000
set_option maxHeartbeats 16000000
namespace Go.Proofs.YtjbcjlbbipohjaaGreatDoor
open Go.RowKit
def RfP : Tell := fun v r => ∃ g p n c, v = .pointer (some ⟨g, 0, none⟩) ∧ r = [.blk g [.slice none 0 0, .slice p n c, .slice none 0 0] 77, .row p n c (lim 1)]
def RfE (g : Nat) (l : List (Nat × Nat)) (e : Int) : Tell := fun v r => ∃ p1 n1 c1 p2 n2 c2 p3 c3, v = .int .i64 e ∧ r = [.blk g [.slice p1 n1 c1, .slice p2 n2 c2, .slice p3 l.length c3] 77, .lst 42 2 p3 l.length c3 (rpE (rps l)), .row p1 n1 c1 (lim (cv l).1), .row p2 n2 c2 (lim (cv l).2)]
theorem wqmodN5 {p : Option Addr} {n c x q : Nat} {w : World} (hx : Nr w p n c x 549755813000) (hq : q < 4294967296) (h0 : q ≠ 0) : Calls Tryz.prog 19 #[.agg #[.bool false, .slice p n c], .int .u32 (q : Int)] w (Ret (Is (.int .u32 ((x % q : Nat) : Int))) w) := by
  have h := wqmodNN hx.zr hq h0 (by omega)
  rwa [show ((((x : Nat) : Int) % (q : Int)).toNat : Int) = ((x % q : Nat) : Int) by rw [← Int.natCast_emod]; rfl] at h
theorem bin_neqRest {x y : Operand} {a b : Int} {w : World} : (do eqGuard .neq 42 x y (.agg #[.int .u32 a, .int .u32 b]) (.agg #[.int .u32 a, .int .u32 b]); binOp .neq 42 (.agg #[.int .u32 a, .int .u32 b]) (.agg #[.int .u32 a, .int .u32 b]) : Sem Value).run Tryz.prog w = .ok (.bool false) w := by
 have e1 : Tryz.prog.fieldsOf 42 = #[{ name := "R", type := 40, offset := 0, embedded := false, tag := "", pkgPath := "", byteOffset := 0 }, { name := "P", type := 40, offset := 1, embedded := false, tag := "", pkgPath := "", byteOffset := 4 }] := by kernel_rfl
 have e2 : ∀ d : Nat, (Op.equalIn (d + 1) 40 (.int .u32 a) (.int .u32 a)).run Tryz.prog w = .ok true w := fun d => by
  rw [run_equalIn_int w d 40 .u32 .u32 a a Tryz.underlying40]; simp
 have e3 : ∀ d : Nat, (Op.equalIn (d + 1) 40 (.int .u32 b) (.int .u32 b)).run Tryz.prog w = .ok true w := fun d => by
  rw [run_equalIn_int w d 40 .u32 .u32 b b Tryz.underlying40]; simp
 have p1 : (_root_.Go.part 40 #[.int .u32 a, .int .u32 b] 0).run Tryz.prog w = .ok (.int .u32 a) w := by
  simp [_root_.Go.part, one32.1, one32.2]
 have p2 : (_root_.Go.part 40 #[.int .u32 a, .int .u32 b] 1).run Tryz.prog w = .ok (.int .u32 b) w := by
  simp [_root_.Go.part, one32.1, one32.2]
 rw [Sem.run_bind, run_eqGuard_agg w _ _ _ _ _ _ (by kernel_rfl), Result.andThen_ok, run_neq_struct, run_equalIn_struct w _ _ _ _ (by kernel_rfl) (by kernel_rfl), e1]
 simp [Op.eqFields, p1, p2, e2, e3]
theorem fill1_3s {u a b c : Value} (hu : u.cells = #[u]) (ha : a.cells = #[a]) (hb : b.cells = #[b]) (hc : c.cells = #[c]) : Instr.fill (fun i => some (i * 1, 1)) ((Array.range (3 * 1)).map (u.cells[· % u.cells.size]!)) #[(0, a), (1, b), (2, c)].toList = some [a, b, c].toArray := by
 rw [hu]
 simp [Instr.fill, ha, hb, hc, Array.range]
 apply Array.ext
 ·simp
 ·intro i h1 h2
  have h3 : i = 0 ∨ i = 1 ∨ i = 2 := by simp at h2; omega
  rcases h3 with rfl | rfl | rfl <;> simp
theorem Sep.lstPtr {w0 w : World} {R : List Res} (h : Sep w0 R w) (k : Nat) {e : TypeId} {sz n c : Nat} {p : Option Addr} {es : List El} (hk : R[k]? = some (.lst e sz p n c es)) (h0 : 0 < n) : ∃ g, p = some ⟨g, 0, none⟩ := by
  obtain ⟨_, h2, h3, _⟩ := (show (Res.lst e sz p n c es).holds w from h.get k hk)
  rcases (h3 _ List.mem_cons_self).2 with ⟨hv, _⟩ | ⟨g, _, _, hg, _⟩
  · simp only [Value.slice.injEq] at hv; have := hv.2.1; omega
  · simp only [Value.slice.injEq] at hg; exact ⟨g, hg.1⟩
theorem Sep.nilRow0 {w0 w : World} {R : List Res} (h : Sep w0 R w) : Sep w0 (.row none 0 0 (lim (cv []).1) :: R) w := by
  rw [show lim (cv []).1 = [] from lim_zero]; exact h.nilRow
noncomputable def nxt (l : List (Nat × Nat)) (x : Nat × Nat) : List (Nat × Nat) := if eno (mods l) x.2 = 0 then l ++ [x] else l
theorem nxt_ok {l : List (Nat × Nat)} {x : Nat × Nat} (h : eno (mods l) x.2 = 0) : nxt l x = l ++ [x] := if_pos h
theorem nxt_no {l : List (Nat × Nat)} {x : Nat × Nat} (h : eno (mods l) x.2 ≠ 0) : nxt l x = l := if_neg h
theorem Okl.nxt {l : List (Nat × Nat)} {x : Nat × Nat} (h : Okl l) (hx : x.2 < 4294967296) (hl : l.length < 1048576) : Okl (nxt l x) := by
 by_cases he : eno (mods l) x.2 = 0
 ·rw [nxt_ok he]
  obtain ⟨h1, h2⟩ := eno_zero.1 he
  exact h.snoc h1 hx h2 hl
 ·rw [nxt_no he]; exact h
theorem nxt_len {l : List (Nat × Nat)} {x : Nat × Nat} : (nxt l x).length ≤ l.length + 1 := by
  by_cases he : eno (mods l) x.2 = 0
  · rw [nxt_ok he]; simp
  · rw [nxt_no he]; omega
theorem wknew {w : World} :
  Calls Tryz.prog 45 #[] w (Ret RfP w) := by
 have hS := Sep.init w
 refine went Tryz.func45 rfl (n := 4) rfl rfl ?_
 refine wseq (wreg (wl rfl (oassign (v := .pointer none) rfl rfl evc ?_)))
 refine wnil (thenN (wseq (wreg ?_)))
 have hkx1 : ll 1 ≤ 2 := Nd.u64 (by omega)
 refine wl rfl (ocall rfl rfl Tryz.call25 rfl (wmof (x := 1) (by omega)) (args1 evc) ?_)
 rintro _ w1 ⟨_, _, rfl, ⟨p1, n1, c1, rfl, rfl⟩, hN⟩
 refine ⟨_, rfl, ?_⟩
 replace hS := hS.news hN; clear hN
 refine wl rfl (obuild (ps := #[(1, .slice p1 n1 c1)]) (v := .agg #[.slice none 0 0, .slice p1 n1 c1, .slice none 0 0]) rfl rfl (parts1 (ev (v := .slice p1 n1 c1) rfl rfl)) (fun w => by simp [go_sem, Instr.build, Instr.fill]) ?_)
 refine wl rfl (obox [.slice none 0 0, .slice p1 n1 c1, .slice none 0 0] hS rfl rfl (ev (v := .agg #[.slice none 0 0, .slice p1 n1 c1, .slice none 0 0]) rfl rfl) rfl ?_)
 clear hS; intro g2 w3 hS
 refine wl rfl (oassign (v := .pointer (some ⟨g2, 0, none⟩)) rfl rfl (ev rfl rfl) ?_)
 refine wnil (thenN ?_)
 refine wleave ?_
 refine wret1 Tryz.results45 (tellT (v := .pointer (some ⟨g2, 0, none⟩)) rfl rfl) ?_
 exact ⟨_, _, rfl, ⟨_, _, _, _, rfl, rfl⟩, (show Sep w [.blk g2 [.slice none 0 0, .slice p1 n1 c1, .slice none 0 0] 77, .row p1 n1 c1 (lim 1)] w3 from hS.pick [0, 1] (by decide) rfl).new rfl⟩
theorem wkrest {p : Option Addr} {n c x q : Nat} {w : World} (hx : Nr w p n c x 549755813000) (hq : q < 4294967296) (h0 : q ≠ 0) :
  Calls Tryz.prog 95 #[.slice p n c, .int .u32 (q : Int)] w (Ret (Is (.int .u32 ((x % q : Nat) : Int))) w) := by
 have hS := Sep.init w
 refine went Tryz.func95 rfl (n := 9) rfl rfl ?_
 refine wseq (wreg (wl rfl (oassign (v := .int .u32 0) rfl rfl evc ?_)))
 refine wnil (thenN (wseq (wreg (wl rfl (omove (v := .slice p n c) rfl rfl (ev rfl rfl) ?_)))))
 refine wl rfl (obuild (ps := #[(1, .slice p n c)]) (v := .agg #[.bool false, .slice p n c]) rfl rfl (parts1 (ev (v := .slice p n c) rfl rfl)) (fun w => by simp [go_sem, Instr.build, Instr.fill]) ?_)
 refine wl rfl (omove (v := .int .u32 (q : Int)) rfl rfl (ev rfl rfl) ?_)
 refine wl rfl (ocall rfl rfl Tryz.call19 rfl (wqmodN5 (hx.at hS) hq h0) (args2 (ev rfl rfl) (ev rfl rfl)) ?_)
 rintro _ w1 ⟨_, _, rfl, ⟨rfl, rfl⟩, hN⟩
 refine ⟨_, rfl, ?_⟩
 replace hS := hS.news hN; clear hN
 refine wl rfl (oassign (v := .int .u32 (((x % q : Nat) : Int))) rfl rfl (ev rfl rfl) ?_)
 refine wnil (thenN ?_)
 refine wleave ?_
 refine wret1 Tryz.results95 (tellT (v := .int .u32 (((x % q : Nat) : Int))) rfl rfl) ?_
 exact ⟨_, _, rfl, isI, hS.new0⟩
theorem wkadd40 {w0 w : World} {R : List Res} {g r p nV cV nM cM cF : Nat} {pV pM pF : Option Addr} {l : List (Nat × Nat)} (hl : Okl l) (hn : l.length < 1048576) (hr : r < 4294967296) (hp2 : p < 4294967296) (hS : Sep w0 (.blk g [.slice pV nV cV, .slice pM nM cM, .slice pF l.length cF] 77 :: .lst 42 2 pF l.length cF (rpE (rps l)) :: .row pV nV cV (lim (cv l).1) :: .row pM nM cM (lim (cv l).2) :: R) w) (hp : ¬ MR.Pr p) :
  Calls Tryz.prog 46 #[.pointer (some ⟨g, 0, none⟩), .int .u32 ((r : Nat) : Int), .int .u32 ((p : Nat) : Int)] w (RetS (RfE g l 40) w0 R) := by
 have hwV := hl.wV
 have hwM := hl.wM
 refine went Tryz.func46 rfl (n := 92) rfl rfl ?_
 refine wseq (wreg (wl rfl (oassign (v := .int .i64 0) rfl rfl evc ?_)))
 refine wnil (thenN (wseq (wseq (wreg (wl rfl (omove (v := .int .u32 (p : Int)) rfl rfl (ev rfl rfl) ?_))))))
 refine wl rfl (ocall rfl rfl Tryz.call23 rfl (wsis (b := false) hp2 ⟨(fun h => by cases h), (fun h => absurd h hp)⟩) (args1 (ev rfl rfl)) ?_)
 rintro _ w1 ⟨_, _, rfl, ⟨rfl, rfl⟩, hN⟩
 refine ⟨_, rfl, ?_⟩
 replace hS := hS.news hN; clear hN
 refine wl rfl (onot (b := false) rfl rfl (ev rfl rfl) ?_)
 refine wnil (thenN ?_)
 refine wT (ev rfl rfl) ?_
 refine wseq (wreg (wl rfl (oassign (v := .int .i64 40) rfl rfl evc ?_)))
 refine wnil (thenN ?_)
 refine wleave ?_
 refine thenR ?_
 refine wret1 Tryz.results46 (tellT (v := .int .i64 40) rfl rfl) ?_
 exact ⟨_, _, rfl, ⟨_, _, _, _, _, _, _, _, rfl, rfl⟩, Sep.pickT [.blk g [.slice pV nV cV, .slice pM nM cM, .slice pF l.length cF] 77, .lst 42 2 pF l.length cF (rpE (rps l)), .row pV nV cV (lim (cv l).1), .row pM nM cM (lim (cv l).2)] [.blk g [.slice pV nV cV, .slice pM nM cM, .slice pF l.length cF] 77, .lst 42 2 pF l.length cF (rpE (rps l)), .row pV nV cV (lim (cv l).1), .row pM nM cM (lim (cv l).2)] hS [0, 1, 2, 3] (by decide) rfl⟩
theorem rps_len (l : List (Nat × Nat)) : (rps l).length = l.length := by simp [rps]
theorem rps_snd {l : List (Nat × Nat)} {i : Nat} {y : Nat × Nat} (h : (rps l)[i]? = some y) : (mods l)[i]? = some y.2 := by
  unfold rps at h
  unfold mods
  rw [List.getElem?_map] at h ⊢
  cases hx : l[i]? with
  | none => rw [hx] at h; cases h
  | some x => rw [hx] at h; simp only [Option.map_some, Option.some.injEq] at h; subst h; rfl
theorem wkadd60 {w0 w : World} {R : List Res} {g r p nV cV nM cM cF : Nat} {pV pM pF : Option Addr} {l : List (Nat × Nat)} (hl : Okl l) (hn : l.length < 1048576) (hr : r < 4294967296) (hp2 : p < 4294967296) (hS : Sep w0 (.blk g [.slice pV nV cV, .slice pM nM cM, .slice pF l.length cF] 77 :: .lst 42 2 pF l.length cF (rpE (rps l)) :: .row pV nV cV (lim (cv l).1) :: .row pM nM cM (lim (cv l).2) :: R) w) (hp : MR.Pr p) (hm : p ∈ mods l) :
  Calls Tryz.prog 46 #[.pointer (some ⟨g, 0, none⟩), .int .u32 ((r : Nat) : Int), .int .u32 ((p : Nat) : Int)] w (RetS (RfE g l 60) w0 R) := by
 have hwV := hl.wV
 have hwM := hl.wM
 refine went Tryz.func46 rfl (n := 92) rfl rfl ?_
 refine wseq (wreg (wl rfl (oassign (v := .int .i64 0) rfl rfl evc ?_)))
 refine wnil (thenN (wseq (wseq (wreg (wl rfl (omove (v := .int .u32 (p : Int)) rfl rfl (ev rfl rfl) ?_))))))
 refine wl rfl (ocall rfl rfl Tryz.call23 rfl (wsis (b := true) hp2 ⟨fun _ => hp, fun _ => rfl⟩) (args1 (ev rfl rfl)) ?_)
 rintro _ w1 ⟨_, _, rfl, ⟨rfl, rfl⟩, hN⟩
 refine ⟨_, rfl, ?_⟩
 replace hS := hS.news hN; clear hN
 refine wl rfl (onot (b := true) rfl rfl (ev rfl rfl) ?_)
 refine wnil (thenN ?_)
 refine wF (ev rfl rfl) ?_
 refine wskip (thenN (wseq (wseq (wreg (wl rfl (omove (v := .pointer (some ⟨g, 0, none⟩)) rfl rfl (ev rfl rfl) ?_))))))
 refine wl rfl (onilCheck (a := ⟨g, 0, none⟩) rfl rfl (ev rfl rfl) ?_)
 refine wl rfl (ofieldAddr (g := g) (off := 0) 2 rfl rfl (ev rfl rfl) Tryz.runUnderlying77 rfl Tryz.sizeOf37 rfl ?_)
 refine wl rfl (oload1 (v := .slice pF l.length cF) (show One Tryz.prog 37 from ⟨Tryz.isAgg37, Tryz.sizeOf37⟩) hS 0 rfl rfl (ev rfl rfl) rfl rfl ?_)
 refine wl rfl (olen rfl rfl rfl Tryz.runUnderlying37 (p := pF) (k := l.length) (m := cF) (ev rfl rfl) ?_)
 refine wl rfl (omove (v := .int .i64 0) rfl rfl evc ?_)
 refine wnil (thenN (wblock ?_))
 refine wloop (σ := Nat) (fun i a9 w' => ∃ (fb : Nat → Value), a9 = act 92 (sets fb [(0, .pointer (some ⟨g, 0, none⟩)), (1, .int .u32 (r : Int)), (2, .int .u32 (p : Int)), (18, .slice pF l.length cF), (19, .int .i64 (l.length : Int)), (20, .int .i64 (i : Int))]) ∧ Sep w0 (.blk g [.slice pV nV cV, .slice pM nM cM, .slice pF l.length cF] 77 :: .lst 42 2 pF l.length cF (rpE (rps l)) :: .row pV nV cV (lim (cv l).1) :: .row pM nM cM (lim (cv l).2) :: R) w' ∧ (i ≤ l.length) ∧ (p ∉ (mods l).take i)) (fun i => l.length - i) (0) ⟨_, act_sets (l := [(0, .pointer (some ⟨g, 0, none⟩)), (1, .int .u32 (r : Int)), (2, .int .u32 (p : Int)), (18, .slice pF l.length cF), (19, .int .i64 (l.length : Int)), (20, .int .i64 0)]) ⟨rfl, rfl, rfl, rfl, rfl, rfl, trivial⟩, hS, Nat.zero_le _, by simp⟩ ?_
 clear hS; rintro i _ w2 ⟨fb, rfl, hS, hi, hns⟩
 refine wseq (wreg ?_)
 by_cases hlt : i < l.length
 ·
  obtain ⟨y, hy⟩ : ∃ y, (rps l)[i]? = some y := ⟨_, List.getElem?_eq_getElem (by rw [rps_len]; exact hlt)⟩
  obtain ⟨gF, hpF, hcF, _⟩ := hS.lstCell 1 rfl (rpE_get hy) (by omega)
  have hy2 := rps_snd hy
  refine wl rfl (obin (u := .int .i64 (i : Int)) (v := .int .i64 (l.length : Int)) (z := .bool true) rfl rfl (ev rfl rfl) (ev rfl rfl) (bin_lss (decide_eq_true (by omega))) ?_)
  refine wnil (thenN (wseq ?_))
  refine wT (ev rfl rfl) ?_
  refine wskip (thenN (wseq (wblock (wseq (wreg (wl rfl (oindex (p := pF) (g := gF) (off := 0) (m := l.length) (k := i) (j := (0 + i * 2)) rfl rfl Tryz.runUnderlying37 Tryz.sizeOf42 (ev rfl rfl) (hpF) (ev rfl rfl) (hlt) rfl ?_)))))))
  refine wl rfl (oloadA (vs := [.int .u32 (y.1 : Int), .int .u32 (y.2 : Int)]) (show Agg Tryz.prog 42 2 from ⟨Tryz.isAgg42, Tryz.sizeOf42⟩) rfl rfl (ev (v := .pointer (some ⟨gF, (0 + i * 2), none⟩)) rfl rfl) (fun j v hj => hcF j v hj) rfl ?_)
  refine wl rfl (oalloc [.int .u32 0, .int .u32 0] hS rfl rfl Tryz.zeroValue42 rfl ?_)
  clear hS; intro g3 w4 hS
  refine wl rfl (ostore [.int .u32 (y.1 : Int), .int .u32 (y.2 : Int)] [.int .u32 (y.1 : Int), .int .u32 (y.2 : Int)] Tryz.sizeOf42 hS 0 rfl rfl (ev rfl rfl) (ev (v := .agg #[.int .u32 (y.1 : Int), .int .u32 (y.2 : Int)]) rfl rfl) rfl rfl rfl rfl rfl rfl ?_)
  clear hS; intro w5 hS
  refine wnil (thenN (wseq (wreg (wl rfl (ofieldAddr (g := g3) (off := 0) 1 rfl rfl (ev rfl rfl) Tryz.runUnderlying42 rfl Tryz.sizeOf40 rfl ?_)))))
  refine wl rfl (oload1 (v := .int .u32 (y.2 : Int)) one32 hS 0 rfl rfl (ev rfl rfl) rfl rfl ?_)
  refine wl rfl (omove (v := .int .u32 (p : Int)) rfl rfl (ev rfl rfl) ?_)
  by_cases hyp : y.2 = p
  ·
   refine wl rfl (obin (u := .int .u32 (y.2 : Int)) (v := .int .u32 (p : Int)) (z := .bool true) rfl rfl (ev rfl rfl) (ev rfl rfl) (bin_eql (eqT (by omega))) ?_)
   refine wnil (thenN ?_)
   refine wT (ev rfl rfl) ?_
   refine wseq (wreg (wl rfl (oassign (v := .int .i64 60) rfl rfl evc ?_)))
   refine wnil (thenN ?_)
   refine wleave ?_
   refine blkR ?_
   refine thenR ?_
   refine thenR ?_
   refine blkR ?_
   refine thenR ?_
   refine wret1 Tryz.results46 (tellT (v := .int .i64 60) rfl rfl) ?_
   exact ⟨_, _, rfl, ⟨_, _, _, _, _, _, _, _, rfl, rfl⟩, Sep.pickT [.blk g3 [.int .u32 (y.1 : Int), .int .u32 (y.2 : Int)] 42, .blk g [.slice pV nV cV, .slice pM nM cM, .slice pF l.length cF] 77, .lst 42 2 pF l.length cF (rpE (rps l)), .row pV nV cV (lim (cv l).1), .row pM nM cM (lim (cv l).2)] [.blk g [.slice pV nV cV, .slice pM nM cM, .slice pF l.length cF] 77, .lst 42 2 pF l.length cF (rpE (rps l)), .row pV nV cV (lim (cv l).1), .row pM nM cM (lim (cv l).2)] hS [1, 2, 3, 4] (by decide) rfl⟩
  ·
   refine wl rfl (obin (u := .int .u32 (y.2 : Int)) (v := .int .u32 (p : Int)) (z := .bool false) rfl rfl (ev rfl rfl) (ev rfl rfl) (bin_eql (eqF (by omega))) ?_)
   refine wnil (thenN ?_)
   refine wF (ev rfl rfl) ?_
   refine wskip (blkN (thenN (wreg (wl rfl (obin (u := .int .i64 (i : Int)) (v := .int .i64 1) (z := .int .i64 (((i + 1 : Nat) : Int))) rfl rfl (ev rfl rfl) evc (bin_add (wrap_i64 (by omega) (by omega))) ?_)))))
   refine wl rfl (omove (v := .int .i64 (((i + 1 : Nat) : Int))) rfl rfl (ev rfl rfl) ?_)
   refine wnil (thenN ?_)
   exact ⟨(i + 1), ⟨_, act_sets (l := [(0, .pointer (some ⟨g, 0, none⟩)), (1, .int .u32 (r : Int)), (2, .int .u32 (p : Int)), (18, .slice pF l.length cF), (19, .int .i64 (l.length : Int)), (20, .int .i64 (((i + 1 : Nat) : Int)))]) ⟨rfl, rfl, rfl, rfl, rfl, rfl, trivial⟩, Sep.pickT [.blk g3 [.int .u32 (y.1 : Int), .int .u32 (y.2 : Int)] 42, .blk g [.slice pV nV cV, .slice pM nM cM, .slice pF l.length cF] 77, .lst 42 2 pF l.length cF (rpE (rps l)), .row pV nV cV (lim (cv l).1), .row pM nM cM (lim (cv l).2)] [.blk g [.slice pV nV cV, .slice pM nM cM, .slice pF l.length cF] 77, .lst 42 2 pF l.length cF (rpE (rps l)), .row pV nV cV (lim (cv l).1), .row pM nM cM (lim (cv l).2)] hS [1, 2, 3, 4] (by decide) rfl, by omega, by rw [take_next hy2]; intro h; exact (List.mem_append.1 h).elim hns (fun h => hyp (List.mem_singleton.1 h).symm)⟩, by omega⟩
 ·
  refine wl rfl (obin (u := .int .i64 (i : Int)) (v := .int .i64 (l.length : Int)) (z := .bool false) rfl rfl (ev rfl rfl) (ev rfl rfl) (bin_lss (decide_eq_false (by omega))) ?_)
  refine wnil (thenN (wseq ?_))
  refine wF (ev rfl rfl) ?_
  refine wexit ?_
  refine thenE ?_
  refine thenE ?_
  refine blkE ?_
  refine thenN (wseq (wreg (wl rfl (omove (v := .int .u32 (r : Int)) rfl rfl (ev rfl rfl) ?_))))
  refine wl rfl (omove (v := .int .u32 (p : Int)) rfl rfl (ev rfl rfl) ?_)
  exact absurd hm (by rw [List.take_of_length_le (show (mods l).length ≤ i by simp [mods]; omega)] at hns; exact hns)
theorem wkadd {w0 w : World} {R : List Res} {g r p nV cV nM cM cF : Nat} {pV pM pF : Option Addr} {l : List (Nat × Nat)} (hl : Okl l) (hn : l.length < 1048576) (hr : r < 4294967296) (hp2 : p < 4294967296) (hS : Sep w0 (.blk g [.slice pV nV cV, .slice pM nM cM, .slice pF l.length cF] 77 :: .lst 42 2 pF l.length cF (rpE (rps l)) :: .row pV nV cV (lim (cv l).1) :: .row pM nM cM (lim (cv l).2) :: R) w) (hp : MR.Pr p) (hm : p ∉ mods l) :
  Calls Tryz.prog 46 #[.pointer (some ⟨g, 0, none⟩), .int .u32 ((r : Nat) : Int), .int .u32 ((p : Nat) : Int)] w (RetS (RfE g (l ++ [(r, p)]) 0) w0 R) := by
 have hwV := hl.wV
 have hwM := hl.wM
 have hp1 := hp.1
 have hrp := mod_lt32 (a := r) (show 0 < p by omega) hp2
 have hvp := mod_lt32 (a := (cv l).1) (show 0 < p by omega) hp2
 have hmp := mod_lt32 (a := (cv l).2) (show 0 < p by omega) hp2
 have hof := mod_lt32 (a := (r % p) % p + p - ((cv l).1 % p) % p) (show 0 < p by omega) hp2
 have hiv := mod_lt32 (a := ((cv l).2 % p) ^ (p - 2)) (show 0 < p by omega) hp2
 obtain ⟨D, hD⟩ : ∃ D : Nat, Hid (dig (cv l).1 (cv l).2 r p = D) := ⟨_, rfl⟩
 have hDp : D < p := by rw [← hD.out]; exact dig_lt (by omega)
 refine went Tryz.func46 rfl (n := 92) rfl rfl ?_
 refine wseq (wreg (wl rfl (oassign (v := .int .i64 0) rfl rfl evc ?_)))
 refine wnil (thenN (wseq (wseq (wreg (wl rfl (omove (v := .int .u32 (p : Int)) rfl rfl (ev rfl rfl) ?_))))))
 refine wl rfl (ocall rfl rfl Tryz.call23 rfl (wsis (b := true) hp2 ⟨fun _ => hp, fun _ => rfl⟩) (args1 (ev rfl rfl)) ?_)
 rintro _ w1 ⟨_, _, rfl, ⟨rfl, rfl⟩, hN⟩
 refine ⟨_, rfl, ?_⟩
 replace hS := hS.news hN; clear hN
 refine wl rfl (onot (b := true) rfl rfl (ev rfl rfl) ?_)
 refine wnil (thenN ?_)
 refine wF (ev rfl rfl) ?_
 refine wskip (thenN (wseq (wseq (wreg (wl rfl (omove (v := .pointer (some ⟨g, 0, none⟩)) rfl rfl (ev rfl rfl) ?_))))))
 refine wl rfl (onilCheck (a := ⟨g, 0, none⟩) rfl rfl (ev rfl rfl) ?_)
 refine wl rfl (ofieldAddr (g := g) (off := 0) 2 rfl rfl (ev rfl rfl) Tryz.runUnderlying77 rfl Tryz.sizeOf37 rfl ?_)
 refine wl rfl (oload1 (v := .slice pF l.length cF) (show One Tryz.prog 37 from ⟨Tryz.isAgg37, Tryz.sizeOf37⟩) hS 0 rfl rfl (ev rfl rfl) rfl rfl ?_)
 refine wl rfl (olen rfl rfl rfl Tryz.runUnderlying37 (p := pF) (k := l.length) (m := cF) (ev rfl rfl) ?_)
 refine wl rfl (omove (v := .int .i64 0) rfl rfl evc ?_)
 refine wnil (thenN (wblock ?_))
 refine wloop (σ := Nat) (fun i a9 w' => ∃ (fb : Nat → Value), a9 = act 92 (sets fb [(0, .pointer (some ⟨g, 0, none⟩)), (1, .int .u32 (r : Int)), (2, .int .u32 (p : Int)), (18, .slice pF l.length cF), (19, .int .i64 (l.length : Int)), (20, .int .i64 (i : Int))]) ∧ Sep w0 (.blk g [.slice pV nV cV, .slice pM nM cM, .slice pF l.length cF] 77 :: .lst 42 2 pF l.length cF (rpE (rps l)) :: .row pV nV cV (lim (cv l).1) :: .row pM nM cM (lim (cv l).2) :: R) w' ∧ (i ≤ l.length) ∧ (p ∉ (mods l).take i)) (fun i => l.length - i) (0) ⟨_, act_sets (l := [(0, .pointer (some ⟨g, 0, none⟩)), (1, .int .u32 (r : Int)), (2, .int .u32 (p : Int)), (18, .slice pF l.length cF), (19, .int .i64 (l.length : Int)), (20, .int .i64 0)]) ⟨rfl, rfl, rfl, rfl, rfl, rfl, trivial⟩, hS, Nat.zero_le _, by simp⟩ ?_
 clear hS; rintro i _ w2 ⟨fb, rfl, hS, hi, hns⟩
 refine wseq (wreg ?_)
 by_cases hlt : i < l.length
 ·
  obtain ⟨y, hy⟩ : ∃ y, (rps l)[i]? = some y := ⟨_, List.getElem?_eq_getElem (by rw [rps_len]; exact hlt)⟩
  obtain ⟨gF, hpF, hcF, _⟩ := hS.lstCell 1 rfl (rpE_get hy) (by omega)
  have hy2 := rps_snd hy
  refine wl rfl (obin (u := .int .i64 (i : Int)) (v := .int .i64 (l.length : Int)) (z := .bool true) rfl rfl (ev rfl rfl) (ev rfl rfl) (bin_lss (decide_eq_true (by omega))) ?_)
  refine wnil (thenN (wseq ?_))
  refine wT (ev rfl rfl) ?_
  refine wskip (thenN (wseq (wblock (wseq (wreg (wl rfl (oindex (p := pF) (g := gF) (off := 0) (m := l.length) (k := i) (j := (0 + i * 2)) rfl rfl Tryz.runUnderlying37 Tryz.sizeOf42 (ev rfl rfl) (hpF) (ev rfl rfl) (hlt) rfl ?_)))))))
  refine wl rfl (oloadA (vs := [.int .u32 (y.1 : Int), .int .u32 (y.2 : Int)]) (show Agg Tryz.prog 42 2 from ⟨Tryz.isAgg42, Tryz.sizeOf42⟩) rfl rfl (ev (v := .pointer (some ⟨gF, (0 + i * 2), none⟩)) rfl rfl) (fun j v hj => hcF j v hj) rfl ?_)
  refine wl rfl (oalloc [.int .u32 0, .int .u32 0] hS rfl rfl Tryz.zeroValue42 rfl ?_)
  clear hS; intro g3 w4 hS
  refine wl rfl (ostore [.int .u32 (y.1 : Int), .int .u32 (y.2 : Int)] [.int .u32 (y.1 : Int), .int .u32 (y.2 : Int)] Tryz.sizeOf42 hS 0 rfl rfl (ev rfl rfl) (ev (v := .agg #[.int .u32 (y.1 : Int), .int .u32 (y.2 : Int)]) rfl rfl) rfl rfl rfl rfl rfl rfl ?_)
  clear hS; intro w5 hS
  refine wnil (thenN (wseq (wreg (wl rfl (ofieldAddr (g := g3) (off := 0) 1 rfl rfl (ev rfl rfl) Tryz.runUnderlying42 rfl Tryz.sizeOf40 rfl ?_)))))
  refine wl rfl (oload1 (v := .int .u32 (y.2 : Int)) one32 hS 0 rfl rfl (ev rfl rfl) rfl rfl ?_)
  refine wl rfl (omove (v := .int .u32 (p : Int)) rfl rfl (ev rfl rfl) ?_)
  by_cases hyp : y.2 = p
  ·
   refine wl rfl (obin (u := .int .u32 (y.2 : Int)) (v := .int .u32 (p : Int)) (z := .bool true) rfl rfl (ev rfl rfl) (ev rfl rfl) (bin_eql (eqT (by omega))) ?_)
   refine wnil (thenN ?_)
   refine wT (ev rfl rfl) ?_
   refine wseq (wreg (wl rfl (oassign (v := .int .i64 60) rfl rfl evc ?_)))
   refine wnil (thenN ?_)
   refine wleave ?_
   refine blkR ?_
   refine thenR ?_
   refine thenR ?_
   refine blkR ?_
   refine thenR ?_
   exact absurd (hyp ▸ List.mem_of_getElem? hy2) hm
  ·
   refine wl rfl (obin (u := .int .u32 (y.2 : Int)) (v := .int .u32 (p : Int)) (z := .bool false) rfl rfl (ev rfl rfl) (ev rfl rfl) (bin_eql (eqF (by omega))) ?_)
   refine wnil (thenN ?_)
   refine wF (ev rfl rfl) ?_
   refine wskip (blkN (thenN (wreg (wl rfl (obin (u := .int .i64 (i : Int)) (v := .int .i64 1) (z := .int .i64 (((i + 1 : Nat) : Int))) rfl rfl (ev rfl rfl) evc (bin_add (wrap_i64 (by omega) (by omega))) ?_)))))
   refine wl rfl (omove (v := .int .i64 (((i + 1 : Nat) : Int))) rfl rfl (ev rfl rfl) ?_)
   refine wnil (thenN ?_)
   exact ⟨(i + 1), ⟨_, act_sets (l := [(0, .pointer (some ⟨g, 0, none⟩)), (1, .int .u32 (r : Int)), (2, .int .u32 (p : Int)), (18, .slice pF l.length cF), (19, .int .i64 (l.length : Int)), (20, .int .i64 (((i + 1 : Nat) : Int)))]) ⟨rfl, rfl, rfl, rfl, rfl, rfl, trivial⟩, Sep.pickT [.blk g3 [.int .u32 (y.1 : Int), .int .u32 (y.2 : Int)] 42, .blk g [.slice pV nV cV, .slice pM nM cM, .slice pF l.length cF] 77, .lst 42 2 pF l.length cF (rpE (rps l)), .row pV nV cV (lim (cv l).1), .row pM nM cM (lim (cv l).2)] [.blk g [.slice pV nV cV, .slice pM nM cM, .slice pF l.length cF] 77, .lst 42 2 pF l.length cF (rpE (rps l)), .row pV nV cV (lim (cv l).1), .row pM nM cM (lim (cv l).2)] hS [1, 2, 3, 4] (by decide) rfl, by omega, by rw [take_next hy2]; intro h; exact (List.mem_append.1 h).elim hns (fun h => hyp (List.mem_singleton.1 h).symm)⟩, by omega⟩
 ·
  refine wl rfl (obin (u := .int .i64 (i : Int)) (v := .int .i64 (l.length : Int)) (z := .bool false) rfl rfl (ev rfl rfl) (ev rfl rfl) (bin_lss (decide_eq_false (by omega))) ?_)
  refine wnil (thenN (wseq ?_))
  refine wF (ev rfl rfl) ?_
  refine wexit ?_
  refine thenE ?_
  refine thenE ?_
  refine blkE ?_
  refine thenN (wseq (wreg (wl rfl (omove (v := .int .u32 (r : Int)) rfl rfl (ev rfl rfl) ?_))))
  refine wl rfl (omove (v := .int .u32 (p : Int)) rfl rfl (ev rfl rfl) ?_)
  refine wl rfl (obin (u := .int .u32 (r : Int)) (v := .int .u32 (p : Int)) (z := .int .u32 (((r % p : Nat) : Int))) rfl rfl (ev rfl rfl) (ev rfl rfl) (bin_rem (by omega) rfl) ?_)
  refine wl rfl (oassign (v := .int .u32 (((r % p : Nat) : Int))) rfl rfl (ev rfl rfl) ?_)
  refine wnil (thenN (wseq ?_))
  refine wstage 14 [32, 33, 34, 35, 36, 37, 38, 39, 40, 41, 42, 43, 9, 10] [[], [0], [1, 0], [2, 0, 1], [], [3, 4, 0, 1, 2], [], [6], [7, 6], [8, 6, 7], [], [9, 10, 0, 1, 2, 3, 4, 5, 6, 7, 8], [5, 0, 1, 2, 3, 4, 6, 7, 8, 9, 10, 11], [11, 0, 1, 2, 3, 4, 5, 6, 7, 8, 9, 10, 12]] [[], [], [], [], [], [], [], [], [], [], [], [], [], []] [] [] (fun i9 => ([fun _ => Is (.pointer (some ⟨g, 0, none⟩)), fun _ => Is (.pointer (some ⟨g, 0, none⟩)), fun _ => Is (.pointer (some ⟨g, 0, none⟩)), fun _ => Is (.slice pV nV cV), fun _ => Is (.int .u32 (p : Int)), fun _ => Is (.int .u32 ((((cv l).1 % p : Nat) : Int))), fun _ => Is (.pointer (some ⟨g, 0, none⟩)), fun _ => Is (.pointer (some ⟨g, 0, none⟩)), fun _ => Is (.pointer (some ⟨g, 1, none⟩)), fun _ => Is (.slice pM nM cM), fun _ => Is (.int .u32 (p : Int)), fun _ => Is (.int .u32 ((((cv l).2 % p : Nat) : Int))), fun _ => Is (.int .u32 ((((cv l).1 % p : Nat) : Int))), fun _ => Is (.int .u32 ((((cv l).2 % p : Nat) : Int)))] : List (List Value → Tell)).getD i9 (fun _ _ _ => False)) (heldNil) (fun d _ _ _ _ h => (by cases d <;> exact h)) (by kernel_rfl) (by kernel_rfl) (by kernel_rfl) hS ?_ ?_
  ·
   refine stepsCons rfl (fun Q f' w' ρ S ho hT hS hB => ?_) ?_
   ·exact .inl ⟨want_none rfl, omove (v := .pointer (some ⟨g, 0, none⟩)) rfl rfl (ev rfl (ho 0 rfl)) ⟨_, _, rfl, isI, New.same _⟩⟩
   refine stepsCons rfl (fun Q f' w' ρ S ho hT hS hB => ?_) ?_
   ·obtain ⟨hv0, hr0⟩ := (hT 0 32 rfl rfl : (Is (.pointer (some ⟨g, 0, none⟩))) _ _)
    obtain hS := (hS.flat1 hr0).front1
    exact .inl ⟨want_none rfl, onilCheck (a := ⟨g, 0, none⟩) rfl rfl (ev rfl hv0) ⟨_, _, rfl, isI, New.same _⟩⟩
   refine stepsCons rfl (fun Q f' w' ρ S ho hT hS hB => ?_) ?_
   ·obtain ⟨hv1, hr1⟩ := (hT 1 33 rfl rfl : (Is (.pointer (some ⟨g, 0, none⟩))) _ _)
    obtain hS := (hS.flat1 hr1).front1
    exact .inl ⟨want_none rfl, ofieldAddr (g := g) (off := 0) 0 rfl rfl (ev rfl hv1) Tryz.runUnderlying77 rfl Tryz.sizeOf26 rfl ⟨_, _, rfl, isI, New.same _⟩⟩
   refine stepsCons rfl (fun Q f' w' ρ S ho hT hS hB => ?_) ?_
   ·obtain ⟨hv2, hr2⟩ := (hT 2 34 rfl rfl : (Is (.pointer (some ⟨g, 0, none⟩))) _ _)
    obtain hS := (hS.flat1 hr2).front1
    exact .inl ⟨want_none rfl, oload1 (v := .slice pV nV cV) oneN hS 0 rfl rfl (ev rfl hv2) rfl rfl ⟨_, _, rfl, isI, New.same _⟩⟩
   refine stepsCons rfl (fun Q f' w' ρ S ho hT hS hB => ?_) ?_
   ·exact .inl ⟨want_none rfl, omove (v := .int .u32 (p : Int)) rfl rfl (ev rfl (ho 2 rfl)) ⟨_, _, rfl, isI, New.same _⟩⟩
   refine stepsCons rfl (fun Q f' w' ρ S ho hT hS hB => ?_) ?_
   ·obtain ⟨hv3, hr3⟩ := (hT 3 35 rfl rfl : (Is (.slice pV nV cV)) _ _)
    obtain ⟨hv4, hr4⟩ := (hT 4 36 rfl rfl : (Is (.int .u32 (((p : Nat) : Int)))) _ _)
    obtain hS := (hS.flat2 hr3 hr4).front2
    exact .inl ⟨want_none rfl, ocall rfl rfl Tryz.call95 rfl (wkrest (((hS.sl 2 rfl).nr hwV).mono (by omega)) (by omega) (by omega)) (args2 (ev rfl hv3) (ev rfl hv4)) callN⟩
   refine stepsCons rfl (fun Q f' w' ρ S ho hT hS hB => ?_) ?_
   ·exact .inl ⟨want_none rfl, omove (v := .pointer (some ⟨g, 0, none⟩)) rfl rfl (ev rfl (ho 0 rfl)) ⟨_, _, rfl, isI, New.same _⟩⟩
   refine stepsCons rfl (fun Q f' w' ρ S ho hT hS hB => ?_) ?_
   ·obtain ⟨hv6, hr6⟩ := (hT 6 38 rfl rfl : (Is (.pointer (some ⟨g, 0, none⟩))) _ _)
    obtain hS := (hS.flat1 hr6).front1
    exact .inl ⟨want_none rfl, onilCheck (a := ⟨g, 0, none⟩) rfl rfl (ev rfl hv6) ⟨_, _, rfl, isI, New.same _⟩⟩
   refine stepsCons rfl (fun Q f' w' ρ S ho hT hS hB => ?_) ?_
   ·obtain ⟨hv7, hr7⟩ := (hT 7 39 rfl rfl : (Is (.pointer (some ⟨g, 0, none⟩))) _ _)
    obtain hS := (hS.flat1 hr7).front1
    exact .inl ⟨want_none rfl, ofieldAddr (g := g) (off := 0) 1 rfl rfl (ev rfl hv7) Tryz.runUnderlying77 rfl Tryz.sizeOf26 rfl ⟨_, _, rfl, isI, New.same _⟩⟩
   refine stepsCons rfl (fun Q f' w' ρ S ho hT hS hB => ?_) ?_
   ·obtain ⟨hv8, hr8⟩ := (hT 8 40 rfl rfl : (Is (.pointer (some ⟨g, 1, none⟩))) _ _)
    obtain hS := (hS.flat1 hr8).front1
    exact .inl ⟨want_none rfl, oload1 (v := .slice pM nM cM) oneN hS 0 rfl rfl (ev rfl hv8) rfl rfl ⟨_, _, rfl, isI, New.same _⟩⟩
   refine stepsCons rfl (fun Q f' w' ρ S ho hT hS hB => ?_) ?_
   ·exact .inl ⟨want_none rfl, omove (v := .int .u32 (p : Int)) rfl rfl (ev rfl (ho 2 rfl)) ⟨_, _, rfl, isI, New.same _⟩⟩
   refine stepsCons rfl (fun Q f' w' ρ S ho hT hS hB => ?_) ?_
   ·obtain ⟨hv9, hr9⟩ := (hT 9 41 rfl rfl : (Is (.slice pM nM cM)) _ _)
    obtain ⟨hv10, hr10⟩ := (hT 10 42 rfl rfl : (Is (.int .u32 (((p : Nat) : Int)))) _ _)
    obtain hS := (hS.flat2 hr9 hr10).front2
    exact .inl ⟨want_none rfl, ocall rfl rfl Tryz.call95 rfl (wkrest (((hS.sl 3 rfl).nr hwM).mono (by omega)) (by omega) (by omega)) (args2 (ev rfl hv9) (ev rfl hv10)) callN⟩
   refine stepsCons rfl (fun Q f' w' ρ S ho hT hS hB => ?_) ?_
   ·obtain ⟨hv5, hr5⟩ := (hT 5 37 rfl rfl : (Is (.int .u32 ((((cv l).1 % p : Nat) : Int)))) _ _)
    obtain hS := (hS.flat1 hr5).front1
    exact .inl ⟨want_none rfl, oassign (v := .int .u32 ((((cv l).1 % p : Nat) : Int))) rfl rfl (ev rfl hv5) ⟨_, _, rfl, isI, New.same _⟩⟩
   refine stepsCons rfl (fun Q f' w' ρ S ho hT hS hB => ?_) ?_
   ·obtain ⟨hv11, hr11⟩ := (hT 11 43 rfl rfl : (Is (.int .u32 ((((cv l).2 % p : Nat) : Int)))) _ _)
    obtain hS := (hS.flat1 hr11).front1
    exact .inl ⟨want_none rfl, oassign (v := .int .u32 ((((cv l).2 % p : Nat) : Int))) rfl rfl (ev rfl hv11) ⟨_, _, rfl, isI, New.same _⟩⟩
   exact stepsNil
  ·
   intro vs ρ w3 f' hf hT hS
   obtain ⟨hv0, hr0⟩ := (hT 0 (by decide) : (Is (.pointer (some ⟨g, 0, none⟩))) _ _)
   obtain ⟨hv1, hr1⟩ := (hT 1 (by decide) : (Is (.pointer (some ⟨g, 0, none⟩))) _ _)
   obtain ⟨hv2, hr2⟩ := (hT 2 (by decide) : (Is (.pointer (some ⟨g, 0, none⟩))) _ _)
   obtain ⟨hv3, hr3⟩ := (hT 3 (by decide) : (Is (.slice pV nV cV)) _ _)
   obtain ⟨hv4, hr4⟩ := (hT 4 (by decide) : (Is (.int .u32 (((p : Nat) : Int)))) _ _)
   obtain ⟨hv5, hr5⟩ := (hT 5 (by decide) : (Is (.int .u32 ((((cv l).1 % p : Nat) : Int)))) _ _)
   obtain ⟨hv6, hr6⟩ := (hT 6 (by decide) : (Is (.pointer (some ⟨g, 0, none⟩))) _ _)
   obtain ⟨hv7, hr7⟩ := (hT 7 (by decide) : (Is (.pointer (some ⟨g, 0, none⟩))) _ _)
   obtain ⟨hv8, hr8⟩ := (hT 8 (by decide) : (Is (.pointer (some ⟨g, 1, none⟩))) _ _)
   obtain ⟨hv9, hr9⟩ := (hT 9 (by decide) : (Is (.slice pM nM cM)) _ _)
   obtain ⟨hv10, hr10⟩ := (hT 10 (by decide) : (Is (.int .u32 (((p : Nat) : Int)))) _ _)
   obtain ⟨hv11, hr11⟩ := (hT 11 (by decide) : (Is (.int .u32 ((((cv l).2 % p : Nat) : Int)))) _ _)
   obtain ⟨hv12, hr12⟩ := (hT 12 (by decide) : (Is (.int .u32 ((((cv l).1 % p : Nat) : Int)))) _ _)
   obtain ⟨hv13, hr13⟩ := (hT 13 (by decide) : (Is (.int .u32 ((((cv l).2 % p : Nat) : Int)))) _ _)
   simp only [pool, if_true, hr0, hr1, hr2, hr3, hr4, hr5, hr6, hr7, hr8, hr9, hr10, hr11, hr12, hr13, List.nil_append, List.cons_append, List.append_nil] at hS
   simp only [layf, hv0, hv1, hv2, hv3, hv4, hv5, hv6, hv7, hv8, hv9, hv10, hv11, hv12, hv13] at hf
   subst hf; clear hT hv0 hv1 hv2 hv3 hv4 hv5 hv6 hv7 hv8 hv9 hv10 hv11 hv12 hv13 hr0 hr1 hr2 hr3 hr4 hr5 hr6 hr7 hr8 hr9 hr10 hr11 hr12 hr13
   refine wdone rfl ?_
   refine thenN (wseq (wreg (wl rfl (omove (v := .int .u32 (((r % p : Nat) : Int))) rfl rfl (ev rfl rfl) ?_))))
   refine wl rfl (omove (v := .int .u32 ((((cv l).1 % p : Nat) : Int))) rfl rfl (ev rfl rfl) ?_)
   refine wl rfl (omove (v := .int .u32 (p : Int)) rfl rfl (ev rfl rfl) ?_)
   refine wl rfl (ocall rfl rfl Tryz.call99 rfl (wssub (show 0 < p by omega) hp2 hrp hvp) (args3 (ev rfl rfl) (ev rfl rfl) (ev rfl rfl)) ?_)
   rintro _ w4 ⟨_, _, rfl, ⟨rfl, rfl⟩, hN⟩
   refine ⟨_, rfl, ?_⟩
   replace hS := hS.news hN; clear hN
   refine wl rfl (omove (v := .int .u32 ((((cv l).2 % p : Nat) : Int))) rfl rfl (ev rfl rfl) ?_)
   refine wl rfl (omove (v := .int .u32 (p : Int)) rfl rfl (ev rfl rfl) ?_)
   refine wl rfl (ocall rfl rfl Tryz.call81 rfl (wsinv hp1 hp2 hmp) (args2 (ev rfl rfl) (ev rfl rfl)) ?_)
   rintro _ w5 ⟨_, _, rfl, ⟨rfl, rfl⟩, hN⟩
   refine ⟨_, rfl, ?_⟩
   replace hS := hS.news hN; clear hN
   refine wl rfl (omove (v := .int .u32 (p : Int)) rfl rfl (ev rfl rfl) ?_)
   refine wl rfl (ocall rfl rfl Tryz.call80 rfl ((show Calls _ _ _ _ (Ret (Is (.int .u32 (D : Int))) _) from by rw [← hD.out]; exact wsmul hof hiv (show 0 < p by omega) hp2)) (args3 (ev rfl rfl) (ev rfl rfl) (ev rfl rfl)) ?_)
   rintro _ w6 ⟨_, _, rfl, ⟨rfl, rfl⟩, hN⟩
   refine ⟨_, rfl, ?_⟩
   replace hS := hS.news hN; clear hN
   refine wl rfl (oassign (v := .int .u32 (D : Int)) rfl rfl (ev rfl rfl) ?_)
   refine wnil (thenN (wseq ?_))
   have hkx1 : ll D ≤ 2 := Nd.u64 (by omega)
   obtain ⟨x2, hx2⟩ : ∃ x : Nat, Hid (((cv l).2) * D = x) := ⟨_, rfl⟩
   have hkx2 : ll x2 ≤ 1048579 := Nd.mul hwM hkx1 hx2 (by omega)
   obtain ⟨x3, hx3⟩ : ∃ x : Nat, Hid (((cv l).1) + x2 = x) := ⟨_, rfl⟩
   have hkx3 : ll x3 ≤ 1048580 := Nd.add hwV hkx2 hx3 (by omega)
   refine wstage 16 [53, 54, 55, 56, 57, 58, 59, 60, 61, 62, 63, 64, 65, 66, 67, 68] [[], [], [1], [2, 1], [3, 1, 2], [], [5], [6, 5], [7, 5, 6], [], [9], [10, 9], [8, 11, 5, 6, 7, 9, 10], [4, 12, 1, 2, 3, 5, 6, 7, 8, 9, 10, 11], [0, 1, 2, 3, 4, 5, 6, 7, 8, 9, 10, 11, 12, 13], [14, 0, 1, 2, 3, 4, 5, 6, 7, 8, 9, 10, 11, 12, 13]] [[], [], [], [], [], [], [], [], [], [], [], [], [], [], [], []] [] [] (fun i9 => ([fun _ => Is (.pointer (some ⟨g, 0, none⟩)), fun _ => Is (.pointer (some ⟨g, 0, none⟩)), fun _ => Is (.pointer (some ⟨g, 0, none⟩)), fun _ => Is (.pointer (some ⟨g, 0, none⟩)), fun _ => Is (.slice pV nV cV), fun _ => Is (.pointer (some ⟨g, 0, none⟩)), fun _ => Is (.pointer (some ⟨g, 0, none⟩)), fun _ => Is (.pointer (some ⟨g, 1, none⟩)), fun _ => Is (.slice pM nM cM), fun _ => Is (.int .u32 (D : Int)), fun _ => Is (.int .u64 (D : Int)), fun _ => Nt (lim D), fun _ => Nt (lim x2), fun _ => Nt (lim x3), fun _ => Is (.pointer (some ⟨g, 0, none⟩)), fun _ => Is (.pointer (some ⟨g, 0, none⟩))] : List (List Value → Tell)).getD i9 (fun _ _ _ => False)) (heldNil) (fun d _ _ _ _ h => (by cases d <;> exact h)) (by kernel_rfl) (by kernel_rfl) (by kernel_rfl) hS ?_ ?_
   ·
    refine stepsCons rfl (fun Q f' w' ρ S ho hT hS hB => ?_) ?_
    ·exact .inl ⟨want_none rfl, omove (v := .pointer (some ⟨g, 0, none⟩)) rfl rfl (ev rfl (ho 0 rfl)) ⟨_, _, rfl, isI, New.same _⟩⟩
    refine stepsCons rfl (fun Q f' w' ρ S ho hT hS hB => ?_) ?_
    ·exact .inl ⟨want_none rfl, omove (v := .pointer (some ⟨g, 0, none⟩)) rfl rfl (ev rfl (ho 0 rfl)) ⟨_, _, rfl, isI, New.same _⟩⟩
    refine stepsCons rfl (fun Q f' w' ρ S ho hT hS hB => ?_) ?_
    ·obtain ⟨hv1, hr1⟩ := (hT 1 54 rfl rfl : (Is (.pointer (some ⟨g, 0, none⟩))) _ _)
     obtain hS := (hS.flat1 hr1).front1
     exact .inl ⟨want_none rfl, onilCheck (a := ⟨g, 0, none⟩) rfl rfl (ev rfl hv1) ⟨_, _, rfl, isI, New.same _⟩⟩
    refine stepsCons rfl (fun Q f' w' ρ S ho hT hS hB => ?_) ?_
    ·obtain ⟨hv2, hr2⟩ := (hT 2 55 rfl rfl : (Is (.pointer (some ⟨g, 0, none⟩))) _ _)
     obtain hS := (hS.flat1 hr2).front1
     exact .inl ⟨want_none rfl, ofieldAddr (g := g) (off := 0) 0 rfl rfl (ev rfl hv2) Tryz.runUnderlying77 rfl Tryz.sizeOf26 rfl ⟨_, _, rfl, isI, New.same _⟩⟩
    refine stepsCons rfl (fun Q f' w' ρ S ho hT hS hB => ?_) ?_
    ·obtain ⟨hv3, hr3⟩ := (hT 3 56 rfl rfl : (Is (.pointer (some ⟨g, 0, none⟩))) _ _)
     obtain hS := (hS.flat1 hr3).front1
     exact .inl ⟨want_none rfl, oload1 (v := .slice pV nV cV) oneN hS 0 rfl rfl (ev rfl hv3) rfl rfl ⟨_, _, rfl, isI, New.same _⟩⟩
    refine stepsCons rfl (fun Q f' w' ρ S ho hT hS hB => ?_) ?_
    ·exact .inl ⟨want_none rfl, omove (v := .pointer (some ⟨g, 0, none⟩)) rfl rfl (ev rfl (ho 0 rfl)) ⟨_, _, rfl, isI, New.same _⟩⟩
    refine stepsCons rfl (fun Q f' w' ρ S ho hT hS hB => ?_) ?_
    ·obtain ⟨hv5, hr5⟩ := (hT 5 58 rfl rfl : (Is (.pointer (some ⟨g, 0, none⟩))) _ _)
     obtain hS := (hS.flat1 hr5).front1
     exact .inl ⟨want_none rfl, onilCheck (a := ⟨g, 0, none⟩) rfl rfl (ev rfl hv5) ⟨_, _, rfl, isI, New.same _⟩⟩
    refine stepsCons rfl (fun Q f' w' ρ S ho hT hS hB => ?_) ?_
    ·obtain ⟨hv6, hr6⟩ := (hT 6 59 rfl rfl : (Is (.pointer (some ⟨g, 0, none⟩))) _ _)
     obtain hS := (hS.flat1 hr6).front1
     exact .inl ⟨want_none rfl, ofieldAddr (g := g) (off := 0) 1 rfl rfl (ev rfl hv6) Tryz.runUnderlying77 rfl Tryz.sizeOf26 rfl ⟨_, _, rfl, isI, New.same _⟩⟩
    refine stepsCons rfl (fun Q f' w' ρ S ho hT hS hB => ?_) ?_
    ·obtain ⟨hv7, hr7⟩ := (hT 7 60 rfl rfl : (Is (.pointer (some ⟨g, 1, none⟩))) _ _)
     obtain hS := (hS.flat1 hr7).front1
     exact .inl ⟨want_none rfl, oload1 (v := .slice pM nM cM) oneN hS 0 rfl rfl (ev rfl hv7) rfl rfl ⟨_, _, rfl, isI, New.same _⟩⟩
    refine stepsCons rfl (fun Q f' w' ρ S ho hT hS hB => ?_) ?_
    ·exact .inl ⟨want_none rfl, omove (v := .int .u32 (D : Int)) rfl rfl (ev rfl (ho 11 rfl)) ⟨_, _, rfl, isI, New.same _⟩⟩
    refine stepsCons rfl (fun Q f' w' ρ S ho hT hS hB => ?_) ?_
    ·obtain ⟨hv9, hr9⟩ := (hT 9 62 rfl rfl : (Is (.int .u32 (((D : Nat) : Int)))) _ _)
     obtain hS := (hS.flat1 hr9).front1
     exact .inl ⟨want_none rfl, oconvert (u := .int .u32 (D : Int)) (v := .int .u64 (D : Int)) rfl rfl (ev rfl hv9) (convert_int Tryz.runUnderlying40 Tryz.runUnderlying52 (wrap_u64 (by omega) (by omega))) ⟨_, _, rfl, isI, New.same _⟩⟩
    refine stepsCons rfl (fun Q f' w' ρ S ho hT hS hB => ?_) ?_
    ·obtain ⟨hv10, hr10⟩ := (hT 10 63 rfl rfl : (Is (.int .u64 (((D : Nat) : Int)))) _ _)
     obtain hS := (hS.flat1 hr10).front1
     exact .inl ⟨want_none rfl, ocall rfl rfl Tryz.call25 rfl (wmof (x := D) (by omega)) (args1 (ev rfl hv10)) callN⟩
    refine stepsCons rfl (fun Q f' w' ρ S ho hT hS hB => ?_) ?_
    ·obtain ⟨hv8, hr8⟩ := (hT 8 61 rfl rfl : (Is (.slice pM nM cM)) _ _)
     obtain ⟨p1, n1, c1, hv11, hr11⟩ := (hT 11 64 rfl rfl : (Nt (lim D)) _ _)
     obtain hS := (hS.flat2 hr8 hr11).front2
     exact .inl ⟨want_none rfl, ocall rfl rfl Tryz.call26 rfl (wmmul (((hS.sl 4 rfl).nr hwM).mono (by omega)) (((hS.sl 0 rfl).nr hkx1).mono (by omega)) hx2) (args2 (ev rfl hv8) (ev rfl hv11)) callN⟩
    refine stepsCons rfl (fun Q f' w' ρ S ho hT hS hB => ?_) ?_
    ·obtain ⟨hv4, hr4⟩ := (hT 4 57 rfl rfl : (Is (.slice pV nV cV)) _ _)
     obtain ⟨p2, n2, c2, hv12, hr12⟩ := (hT 12 65 rfl rfl : (Nt (lim x2)) _ _)
     obtain hS := (hS.flat2 hr4 hr12).front2
     exact .inl ⟨want_none rfl, ocall rfl rfl Tryz.call27 rfl (wmadd (((hS.sl 3 rfl).nr hwV).mono (by omega)) (((hS.sl 0 rfl).nr hkx2).mono (by omega)) hx3) (args2 (ev rfl hv4) (ev rfl hv12)) callN⟩
    refine stepsCons rfl (fun Q f' w' ρ S ho hT hS hB => ?_) ?_
    ·obtain ⟨hv0, hr0⟩ := (hT 0 53 rfl rfl : (Is (.pointer (some ⟨g, 0, none⟩))) _ _)
     obtain hS := (hS.flat1 hr0).front1
     exact .inl ⟨want_none rfl, onilCheck (a := ⟨g, 0, none⟩) rfl rfl (ev rfl hv0) ⟨_, _, rfl, isI, New.same _⟩⟩
    refine stepsCons rfl (fun Q f' w' ρ S ho hT hS hB => ?_) ?_
    ·obtain ⟨hv14, hr14⟩ := (hT 14 67 rfl rfl : (Is (.pointer (some ⟨g, 0, none⟩))) _ _)
     obtain hS := (hS.flat1 hr14).front1
     exact .inl ⟨want_none rfl, ofieldAddr (g := g) (off := 0) 0 rfl rfl (ev rfl hv14) Tryz.runUnderlying77 rfl Tryz.sizeOf26 rfl ⟨_, _, rfl, isI, New.same _⟩⟩
    exact stepsNil
   ·
    intro vs ρ w7 f' hf hT hS
    obtain ⟨hv0, hr0⟩ := (hT 0 (by decide) : (Is (.pointer (some ⟨g, 0, none⟩))) _ _)
    obtain ⟨hv1, hr1⟩ := (hT 1 (by decide) : (Is (.pointer (some ⟨g, 0, none⟩))) _ _)
    obtain ⟨hv2, hr2⟩ := (hT 2 (by decide) : (Is (.pointer (some ⟨g, 0, none⟩))) _ _)
    obtain ⟨hv3, hr3⟩ := (hT 3 (by decide) : (Is (.pointer (some ⟨g, 0, none⟩))) _ _)
    obtain ⟨hv4, hr4⟩ := (hT 4 (by decide) : (Is (.slice pV nV cV)) _ _)
    obtain ⟨hv5, hr5⟩ := (hT 5 (by decide) : (Is (.pointer (some ⟨g, 0, none⟩))) _ _)
    obtain ⟨hv6, hr6⟩ := (hT 6 (by decide) : (Is (.pointer (some ⟨g, 0, none⟩))) _ _)
    obtain ⟨hv7, hr7⟩ := (hT 7 (by decide) : (Is (.pointer (some ⟨g, 1, none⟩))) _ _)
    obtain ⟨hv8, hr8⟩ := (hT 8 (by decide) : (Is (.slice pM nM cM)) _ _)
    obtain ⟨hv9, hr9⟩ := (hT 9 (by decide) : (Is (.int .u32 (((D : Nat) : Int)))) _ _)
    obtain ⟨hv10, hr10⟩ := (hT 10 (by decide) : (Is (.int .u64 (((D : Nat) : Int)))) _ _)
    obtain ⟨p1, n1, c1, hv11, hr11⟩ := (hT 11 (by decide) : (Nt (lim D)) _ _)
    obtain ⟨p2, n2, c2, hv12, hr12⟩ := (hT 12 (by decide) : (Nt (lim x2)) _ _)
    obtain ⟨p3, n3, c3, hv13, hr13⟩ := (hT 13 (by decide) : (Nt (lim x3)) _ _)
    obtain ⟨hv14, hr14⟩ := (hT 14 (by decide) : (Is (.pointer (some ⟨g, 0, none⟩))) _ _)
    obtain ⟨hv15, hr15⟩ := (hT 15 (by decide) : (Is (.pointer (some ⟨g, 0, none⟩))) _ _)
    simp only [pool, if_true, hr0, hr1, hr2, hr3, hr4, hr5, hr6, hr7, hr8, hr9, hr10, hr11, hr12, hr13, hr14, hr15, List.nil_append, List.cons_append, List.append_nil] at hS
    simp only [layf, hv0, hv1, hv2, hv3, hv4, hv5, hv6, hv7, hv8, hv9, hv10, hv11, hv12, hv13, hv14, hv15] at hf
    subst hf; clear hT hv0 hv1 hv2 hv3 hv4 hv5 hv6 hv7 hv8 hv9 hv10 hv11 hv12 hv13 hv14 hv15 hr0 hr1 hr2 hr3 hr4 hr5 hr6 hr7 hr8 hr9 hr10 hr11 hr12 hr13 hr14 hr15
    refine wlate 16 rfl (by kernel_rfl) (ostore [.slice p3 n3 c3] [.slice p3 n3 c3, .slice pM nM cM, .slice pF l.length cF] Tryz.sizeOf26 hS 3 rfl rfl (ev rfl rfl) (ev (v := .slice p3 n3 c3) rfl rfl) rfl rfl rfl rfl rfl rfl ?_)
    clear hS; intro w8 hS
    refine ⟨heldNil, ?_⟩
    refine wdone rfl ?_
    refine thenN (wseq ?_)
    have hkx4 : ll p ≤ 2 := Nd.u64 (by omega)
    obtain ⟨x5, hx5⟩ : ∃ x : Nat, Hid (((cv l).2) * p = x) := ⟨_, rfl⟩
    have hkx5 : ll x5 ≤ 1048579 := Nd.mul hwM hkx4 hx5 (by omega)
    refine wstage 11 [69, 70, 71, 72, 73, 74, 75, 76, 77, 78, 79] [[], [], [1], [2, 1], [3, 1, 2], [], [5], [6, 5], [4, 7, 1, 2, 3, 5, 6], [0, 1, 2, 3, 4, 5, 6, 7, 8], [9, 0, 1, 2, 3, 4, 5, 6, 7, 8]] [[], [], [], [], [], [], [], [], [], [], []] [] [] (fun i9 => ([fun _ => Is (.pointer (some ⟨g, 0, none⟩)), fun _ => Is (.pointer (some ⟨g, 0, none⟩)), fun _ => Is (.pointer (some ⟨g, 0, none⟩)), fun _ => Is (.pointer (some ⟨g, 1, none⟩)), fun _ => Is (.slice pM nM cM), fun _ => Is (.int .u32 (p : Int)), fun _ => Is (.int .u64 (p : Int)), fun _ => Nt (lim p), fun _ => Nt (lim x5), fun _ => Is (.pointer (some ⟨g, 0, none⟩)), fun _ => Is (.pointer (some ⟨g, 1, none⟩))] : List (List Value → Tell)).getD i9 (fun _ _ _ => False)) (heldNil) (fun d _ _ _ _ h => (by cases d <;> exact h)) (by kernel_rfl) (by kernel_rfl) (by kernel_rfl) hS ?_ ?_
    ·
     refine stepsCons rfl (fun Q f' w' ρ S ho hT hS hB => ?_) ?_
     ·exact .inl ⟨want_none rfl, omove (v := .pointer (some ⟨g, 0, none⟩)) rfl rfl (ev rfl (ho 0 rfl)) ⟨_, _, rfl, isI, New.same _⟩⟩
     refine stepsCons rfl (fun Q f' w' ρ S ho hT hS hB => ?_) ?_
     ·exact .inl ⟨want_none rfl, omove (v := .pointer (some ⟨g, 0, none⟩)) rfl rfl (ev rfl (ho 0 rfl)) ⟨_, _, rfl, isI, New.same _⟩⟩
     refine stepsCons rfl (fun Q f' w' ρ S ho hT hS hB => ?_) ?_
     ·obtain ⟨hv1, hr1⟩ := (hT 1 70 rfl rfl : (Is (.pointer (some ⟨g, 0, none⟩))) _ _)
      obtain hS := (hS.flat1 hr1).front1
      exact .inl ⟨want_none rfl, onilCheck (a := ⟨g, 0, none⟩) rfl rfl (ev rfl hv1) ⟨_, _, rfl, isI, New.same _⟩⟩
     refine stepsCons rfl (fun Q f' w' ρ S ho hT hS hB => ?_) ?_
     ·obtain ⟨hv2, hr2⟩ := (hT 2 71 rfl rfl : (Is (.pointer (some ⟨g, 0, none⟩))) _ _)
      obtain hS := (hS.flat1 hr2).front1
      exact .inl ⟨want_none rfl, ofieldAddr (g := g) (off := 0) 1 rfl rfl (ev rfl hv2) Tryz.runUnderlying77 rfl Tryz.sizeOf26 rfl ⟨_, _, rfl, isI, New.same _⟩⟩
     refine stepsCons rfl (fun Q f' w' ρ S ho hT hS hB => ?_) ?_
     ·obtain ⟨hv3, hr3⟩ := (hT 3 72 rfl rfl : (Is (.pointer (some ⟨g, 1, none⟩))) _ _)
      obtain hS := (hS.flat1 hr3).front1
      exact .inl ⟨want_none rfl, oload1 (v := .slice pM nM cM) oneN hS 3 rfl rfl (ev rfl hv3) rfl rfl ⟨_, _, rfl, isI, New.same _⟩⟩
     refine stepsCons rfl (fun Q f' w' ρ S ho hT hS hB => ?_) ?_
     ·exact .inl ⟨want_none rfl, omove (v := .int .u32 (p : Int)) rfl rfl (ev rfl (ho 2 rfl)) ⟨_, _, rfl, isI, New.same _⟩⟩
     refine stepsCons rfl (fun Q f' w' ρ S ho hT hS hB => ?_) ?_
     ·obtain ⟨hv5, hr5⟩ := (hT 5 74 rfl rfl : (Is (.int .u32 (((p : Nat) : Int)))) _ _)
      obtain hS := (hS.flat1 hr5).front1
      exact .inl ⟨want_none rfl, oconvert (u := .int .u32 (p : Int)) (v := .int .u64 (p : Int)) rfl rfl (ev rfl hv5) (convert_int Tryz.runUnderlying40 Tryz.runUnderlying52 (wrap_u64 (by omega) (by omega))) ⟨_, _, rfl, isI, New.same _⟩⟩
     refine stepsCons rfl (fun Q f' w' ρ S ho hT hS hB => ?_) ?_
     ·obtain ⟨hv6, hr6⟩ := (hT 6 75 rfl rfl : (Is (.int .u64 (((p : Nat) : Int)))) _ _)
      obtain hS := (hS.flat1 hr6).front1
      exact .inl ⟨want_none rfl, ocall rfl rfl Tryz.call25 rfl (wmof (x := p) (by omega)) (args1 (ev rfl hv6)) callN⟩
     refine stepsCons rfl (fun Q f' w' ρ S ho hT hS hB => ?_) ?_
     ·obtain ⟨hv4, hr4⟩ := (hT 4 73 rfl rfl : (Is (.slice pM nM cM)) _ _)
      obtain ⟨p4, n4, c4, hv7, hr7⟩ := (hT 7 76 rfl rfl : (Nt (lim p)) _ _)
      obtain hS := (hS.flat2 hr4 hr7).front2
      exact .inl ⟨want_none rfl, ocall rfl rfl Tryz.call26 rfl (wmmul (((hS.sl 7 rfl).nr hwM).mono (by omega)) (((hS.sl 0 rfl).nr hkx4).mono (by omega)) hx5) (args2 (ev rfl hv4) (ev rfl hv7)) callN⟩
     refine stepsCons rfl (fun Q f' w' ρ S ho hT hS hB => ?_) ?_
     ·obtain ⟨hv0, hr0⟩ := (hT 0 69 rfl rfl : (Is (.pointer (some ⟨g, 0, none⟩))) _ _)
      obtain hS := (hS.flat1 hr0).front1
      exact .inl ⟨want_none rfl, onilCheck (a := ⟨g, 0, none⟩) rfl rfl (ev rfl hv0) ⟨_, _, rfl, isI, New.same _⟩⟩
     refine stepsCons rfl (fun Q f' w' ρ S ho hT hS hB => ?_) ?_
     ·obtain ⟨hv9, hr9⟩ := (hT 9 78 rfl rfl : (Is (.pointer (some ⟨g, 0, none⟩))) _ _)
      obtain hS := (hS.flat1 hr9).front1
      exact .inl ⟨want_none rfl, ofieldAddr (g := g) (off := 0) 1 rfl rfl (ev rfl hv9) Tryz.runUnderlying77 rfl Tryz.sizeOf26 rfl ⟨_, _, rfl, isI, New.same _⟩⟩
     exact stepsNil
    ·
     intro vs ρ w9 f' hf hT hS
     obtain ⟨hv0, hr0⟩ := (hT 0 (by decide) : (Is (.pointer (some ⟨g, 0, none⟩))) _ _)
     obtain ⟨hv1, hr1⟩ := (hT 1 (by decide) : (Is (.pointer (some ⟨g, 0, none⟩))) _ _)
     obtain ⟨hv2, hr2⟩ := (hT 2 (by decide) : (Is (.pointer (some ⟨g, 0, none⟩))) _ _)
     obtain ⟨hv3, hr3⟩ := (hT 3 (by decide) : (Is (.pointer (some ⟨g, 1, none⟩))) _ _)
     obtain ⟨hv4, hr4⟩ := (hT 4 (by decide) : (Is (.slice pM nM cM)) _ _)
     obtain ⟨hv5, hr5⟩ := (hT 5 (by decide) : (Is (.int .u32 (((p : Nat) : Int)))) _ _)
     obtain ⟨hv6, hr6⟩ := (hT 6 (by decide) : (Is (.int .u64 (((p : Nat) : Int)))) _ _)
     obtain ⟨p4, n4, c4, hv7, hr7⟩ := (hT 7 (by decide) : (Nt (lim p)) _ _)
     obtain ⟨p5, n5, c5, hv8, hr8⟩ := (hT 8 (by decide) : (Nt (lim x5)) _ _)
     obtain ⟨hv9, hr9⟩ := (hT 9 (by decide) : (Is (.pointer (some ⟨g, 0, none⟩))) _ _)
     obtain ⟨hv10, hr10⟩ := (hT 10 (by decide) : (Is (.pointer (some ⟨g, 1, none⟩))) _ _)
     simp only [pool, if_true, hr0, hr1, hr2, hr3, hr4, hr5, hr6, hr7, hr8, hr9, hr10, List.nil_append, List.cons_append, List.append_nil] at hS
     simp only [layf, hv0, hv1, hv2, hv3, hv4, hv5, hv6, hv7, hv8, hv9, hv10] at hf
     subst hf; clear hT hv0 hv1 hv2 hv3 hv4 hv5 hv6 hv7 hv8 hv9 hv10 hr0 hr1 hr2 hr3 hr4 hr5 hr6 hr7 hr8 hr9 hr10
     refine wlate 11 rfl (by kernel_rfl) (ostore [.slice p5 n5 c5] [.slice p3 n3 c3, .slice p5 n5 c5, .slice pF l.length cF] Tryz.sizeOf26 hS 5 rfl rfl (ev rfl rfl) (ev (v := .slice p5 n5 c5) rfl rfl) rfl rfl rfl rfl rfl rfl ?_)
     clear hS; intro w10 hS
     refine ⟨heldNil, ?_⟩
     refine wdone rfl ?_
     refine thenN (wseq (wreg (wl rfl (omove (v := .pointer (some ⟨g, 0, none⟩)) rfl rfl (ev rfl rfl) ?_))))
     refine wl rfl (omove (v := .pointer (some ⟨g, 0, none⟩)) rfl rfl (ev rfl rfl) ?_)
     refine wl rfl (onilCheck (a := ⟨g, 0, none⟩) rfl rfl (ev rfl rfl) ?_)
     refine wl rfl (ofieldAddr (g := g) (off := 0) 2 rfl rfl (ev rfl rfl) Tryz.runUnderlying77 rfl Tryz.sizeOf37 rfl ?_)
     refine wl rfl (oload1 (v := .slice pF l.length cF) (show One Tryz.prog 37 from ⟨Tryz.isAgg37, Tryz.sizeOf37⟩) hS 5 rfl rfl (ev rfl rfl) rfl rfl ?_)
     refine wl rfl (omove (v := .int .u32 (((r % p : Nat) : Int))) rfl rfl (ev rfl rfl) ?_)
     refine wl rfl (omove (v := .int .u32 (p : Int)) rfl rfl (ev rfl rfl) ?_)
     refine wl rfl (obuild (ps := #[(0, .int .u32 (((r % p : Nat) : Int))), (1, .int .u32 (p : Int))]) (v := .agg #[.int .u32 (((r % p : Nat) : Int)), .int .u32 (p : Int)]) rfl rfl (parts2 (ev (v := .int .u32 (((r % p : Nat) : Int))) rfl rfl) (ev (v := .int .u32 (p : Int)) rfl rfl)) (fun w => by simp [go_sem, Instr.build, Instr.fill]) ?_)
     refine wl rfl (obslice (ps := #[(0, .agg #[.int .u32 (((r % p : Nat) : Int)), .int .u32 (p : Int)])]) (z := .agg #[.int .u32 0, .int .u32 0]) [.int .u32 (((r % p : Nat) : Int)), .int .u32 (p : Int)] hS rfl rfl Tryz.runUnderlying37 Tryz.sizeOf42 Tryz.zeroValue42 (parts1 (ev (v := .agg #[.int .u32 (((r % p : Nat) : Int)), .int .u32 (p : Int)]) rfl rfl)) rfl (by decide) fill2_1 ?_)
     clear hS; intro g11 w12 hS
     obtain hS := (show Sep w0 (.lst 42 2 pF l.length cF (rpE (rps l)) :: .blk g11 [.int .u32 (((r % p : Nat) : Int)), .int .u32 (((p : Nat) : Int))] 42 :: .row p5 n5 c5 (lim x5) :: .row p4 n4 c4 (lim p) :: .row p3 n3 c3 (lim x3) :: .row p2 n2 c2 (lim x2) :: .row p1 n1 c1 (lim D) :: .blk g [.slice p3 n3 c3, .slice p5 n5 c5, .slice pF l.length cF] 77 :: .row pV nV cV (lim (cv l).1) :: .row pM nM cM (lim (cv l).2) :: R) w12 from Sep.pickT [.blk g11 [.int .u32 (((r % p : Nat) : Int)), .int .u32 (((p : Nat) : Int))] 42, .row p5 n5 c5 (lim x5), .row p4 n4 c4 (lim p), .row p3 n3 c3 (lim x3), .row p2 n2 c2 (lim x2), .row p1 n1 c1 (lim D), .blk g [.slice p3 n3 c3, .slice p5 n5 c5, .slice pF l.length cF] 77, .lst 42 2 pF l.length cF (rpE (rps l)), .row pV nV cV (lim (cv l).1), .row pM nM cM (lim (cv l).2)] [.lst 42 2 pF l.length cF (rpE (rps l)), .blk g11 [.int .u32 (((r % p : Nat) : Int)), .int .u32 (((p : Nat) : Int))] 42, .row p5 n5 c5 (lim x5), .row p4 n4 c4 (lim p), .row p3 n3 c3 (lim x3), .row p2 n2 c2 (lim x2), .row p1 n1 c1 (lim D), .blk g [.slice p3 n3 c3, .slice p5 n5 c5, .slice pF l.length cF] 77, .row pV nV cV (lim (cv l).1), .row pM nM cM (lim (cv l).2)] hS [7, 0, 1, 2, 3, 4, 5, 6, 8, 9] (by decide) rfl)
     refine wl rfl (oappendL (p := pF) (m := l.length) (c := cF) (g2 := g11) (c2 := 1) (off := 0) [.int .u32 (((r % p : Nat) : Int)), .int .u32 (p : Int)] [] hS rfl rfl Tryz.underlying37 infoRest rfl (by decide) (ev (v := .slice pF l.length cF) rfl rfl) (ev (v := .slice (some ⟨g11, 0, none⟩) 1 1) rfl rfl) (fun j v hj => by rw [Nat.zero_add]; exact (blk_cell (hS.blkAt 1 rfl) j).trans hj) rfl rfl rfl (by omega) (by omega) ?_)
     clear hS; intro p14 c15 w13 hS
     refine wl rfl (onilCheck (a := ⟨g, 0, none⟩) rfl rfl (ev rfl rfl) ?_)
     refine wl rfl (ofieldAddr (g := g) (off := 0) 2 rfl rfl (ev rfl rfl) Tryz.runUnderlying77 rfl Tryz.sizeOf37 rfl ?_)
     refine wl rfl (ostore [.slice p14 ((l.length + 1)) c15] [.slice p3 n3 c3, .slice p5 n5 c5, .slice p14 ((l.length + 1)) c15] Tryz.sizeOf37 hS 7 rfl rfl (ev rfl rfl) (ev (v := .slice p14 ((l.length + 1)) c15) rfl rfl) rfl rfl rfl rfl rfl rfl ?_)
     clear hS; intro w16 hS
     refine wnil (thenN (wseq (wreg (wl rfl (oassign (v := .int .i64 0) rfl rfl evc ?_)))))
     refine wnil (thenN ?_)
     refine wleave ?_
     refine wret1 Tryz.results46 (tellT (v := .int .i64 0) rfl rfl) ?_
     have hc := cv_put hD hx2 hx3 hx5
     refine ⟨_, _, rfl, ⟨p3, n3, c3, p5, n5, c5, p14, c15, rfl, rfl⟩, ?_⟩
     rw [rps_snoc, rpE_app, hc, List.length_append, List.length_singleton]
     exact Sep.pickT [.lst 42 2 p14 ((l.length + 1)) c15 ((rpE (rps l)) ++ [⟨[.int .u32 (((r % p : Nat) : Int)), .int .u32 (p : Int)], []⟩]), .blk g11 [.int .u32 (((r % p : Nat) : Int)), .int .u32 (p : Int)] 42, .row p5 n5 c5 (lim x5), .row p4 n4 c4 (lim p), .row p3 n3 c3 (lim x3), .row p2 n2 c2 (lim x2), .row p1 n1 c1 (lim D), .blk g [.slice p3 n3 c3, .slice p5 n5 c5, .slice p14 ((l.length + 1)) c15] 77, .row pV nV cV (lim (cv l).1), .row pM nM cM (lim (cv l).2)] [.blk g [.slice p3 n3 c3, .slice p5 n5 c5, .slice p14 ((l.length + 1)) c15] 77, .lst 42 2 p14 ((l.length + 1)) c15 ((rpE (rps l)) ++ [⟨[.int .u32 (((r % p : Nat) : Int)), .int .u32 (p : Int)], []⟩]), .row p3 n3 c3 (lim x3), .row p5 n5 c5 (lim x5)] hS [7, 0, 4, 2] (by decide) rfl
theorem wcaddA {w0 w : World} {R : List Res} {g r p : Nat} {s : Gh} {l : List (Nat × Nat)} (ht : Tb w0) (hl : Okl l) (hn : l.length < 1048576) (hr : r < 4294967296) (hp2 : p < 4294967296) {K2 : List (Nat × Nat)} {e2 : Nat} (hK : Hid (nxt l (r, p) = K2)) (he : Hid (eno (mods l) p = e2)) (hS : Sep w0 (.pack (crtR g s l) :: R) w) : Calls Tryz.prog 38 #[.pointer (some ⟨g, 0, none⟩), .int .u32 ((r : Nat) : Int), .int .u32 ((p : Nat) : Int)] w (RetS (CrtE g K2 ((e2 : Nat) : Int)) w0 R) := by
 have hK' := hK.out
 have he' := he.out
 by_cases hp : MR.Pr p
 ·by_cases hm : p ∈ mods l
  ·have e := eno_in hp hm
   rw [nxt_no (by rw [e]; decide)] at hK'
   subst hK'
   rw [e] at he'
   subst he'
   exact wcadd60 ht hl hn hr hp2 hS hp hm
  ·have e := eno_ok hp hm
   rw [nxt_ok e] at hK'
   subst hK'
   rw [e] at he'
   subst he'
   exact wcadd ht hl hn hr hp2 hS hp hm
 ·have e := eno_np (seen := mods l) hp
  rw [nxt_no (by rw [e]; decide)] at hK'
  subst hK'
  rw [e] at he'
  subst he'
  exact wcadd40 ht hl hn hr hp2 hS hp
theorem wkaddA {w0 w : World} {R : List Res} {g r p nV cV nM cM cF : Nat} {pV pM pF : Option Addr} {l : List (Nat × Nat)} (hl : Okl l) (hn : l.length < 1048576) (hr : r < 4294967296) (hp2 : p < 4294967296) {K2 : List (Nat × Nat)} {e2 : Nat} (hK : Hid (nxt l (r, p) = K2)) (he : Hid (eno (mods l) p = e2)) (hS : Sep w0 (.blk g [.slice pV nV cV, .slice pM nM cM, .slice pF l.length cF] 77 :: .lst 42 2 pF l.length cF (rpE (rps l)) :: .row pV nV cV (lim (cv l).1) :: .row pM nM cM (lim (cv l).2) :: R) w) : Calls Tryz.prog 46 #[.pointer (some ⟨g, 0, none⟩), .int .u32 ((r : Nat) : Int), .int .u32 ((p : Nat) : Int)] w (RetS (RfE g K2 ((e2 : Nat) : Int)) w0 R) := by
 have hK' := hK.out
 have he' := he.out
 by_cases hp : MR.Pr p
 ·by_cases hm : p ∈ mods l
  ·have e := eno_in hp hm
   rw [nxt_no (by rw [e]; decide)] at hK'
   subst hK'
   rw [e] at he'
   subst he'
   exact wkadd60 hl hn hr hp2 hS hp hm
  ·have e := eno_ok hp hm
   rw [nxt_ok e] at hK'
   subst hK'
   rw [e] at he'
   subst he'
   exact wkadd hl hn hr hp2 hS hp hm
 ·have e := eno_np (seen := mods l) hp
  rw [nxt_no (by rw [e]; decide)] at hK'
  subst hK'
  rw [e] at he'
  subst he'
  exact wkadd40 hl hn hr hp2 hS hp
theorem wlpairs {pa pb : Option Addr} {na ca nb cb : Nat} {L : List (Nat × Nat)} {w : World} (hA : RS w pa na L) (hB : RS w pb nb L) (hlen : L.length ≤ 1048576) :
  Calls Tryz.prog 53 #[.slice pa na ca, .slice pb nb cb] w (Ret (Is (.bool true)) w) := by
 have hna := hA.1
 have hnb := hB.1
 have hS := Sep.init w
 refine went Tryz.func53 rfl (n := 26) rfl rfl ?_
 refine wseq (wreg (wl rfl (oassign (v := .bool false) rfl rfl evc ?_)))
 refine wnil (thenN (wseq (wseq (wreg (wl rfl (omove (v := .slice pa na ca) rfl rfl (ev rfl rfl) ?_))))))
 refine wl rfl (olen rfl rfl rfl Tryz.runUnderlying37 (p := pa) (k := na) (m := ca) (ev rfl rfl) ?_)
 refine wl rfl (omove (v := .slice pb nb cb) rfl rfl (ev rfl rfl) ?_)
 refine wl rfl (olen rfl rfl rfl Tryz.runUnderlying37 (p := pb) (k := nb) (m := cb) (ev rfl rfl) ?_)
 refine wl rfl (obin (u := .int .i64 (na : Int)) (v := .int .i64 (nb : Int)) (z := .bool false) rfl rfl (ev rfl rfl) (ev rfl rfl) (bin_neq (neF (by omega))) ?_)
 refine wnil (thenN ?_)
 refine wF (ev rfl rfl) ?_
 refine wskip (thenN (wseq (wseq (wreg (wl rfl (omove (v := .slice pa na ca) rfl rfl (ev rfl rfl) ?_))))))
 refine wl rfl (olen rfl rfl rfl Tryz.runUnderlying37 (p := pa) (k := na) (m := ca) (ev rfl rfl) ?_)
 refine wl rfl (omove (v := .int .i64 0) rfl rfl evc ?_)
 refine wnil (thenN (wblock ?_))
 refine wloop (σ := Nat) (fun i a9 w' => ∃ (fb : Nat → Value), a9 = act 26 (sets fb [(0, .slice pa na ca), (1, .slice pb nb cb), (12, .int .i64 (na : Int)), (13, .int .i64 (i : Int))]) ∧ Sep w [] w' ∧ (i ≤ na)) (fun i => na - i) (0) ⟨_, act_sets (l := [(0, .slice pa na ca), (1, .slice pb nb cb), (12, .int .i64 (na : Int)), (13, .int .i64 0)]) ⟨rfl, rfl, rfl, rfl, trivial⟩, hS, Nat.zero_le _⟩ ?_
 clear hS; rintro i _ w1 ⟨fb, rfl, hS, hi⟩
 refine wseq (wreg ?_)
 by_cases hlt : i < na
 ·
  obtain ⟨x, hx⟩ : ∃ x, L[i]? = some x := ⟨_, List.getElem?_eq_getElem (by omega)⟩
  obtain ⟨b, off, hpx, hcx⟩ := hA.2.2 i x hx
  obtain ⟨b2, off2, hpy, hcy⟩ := hB.2.2 i x hx
  refine wl rfl (obin (u := .int .i64 (i : Int)) (v := .int .i64 (na : Int)) (z := .bool true) rfl rfl (ev rfl rfl) (ev rfl rfl) (bin_lss (decide_eq_true (by omega))) ?_)
  refine wnil (thenN (wseq ?_))
  refine wT (ev rfl rfl) ?_
  refine wskip (thenN (wseq (wblock (wseq (wreg (wl rfl (omove (v := .int .i64 (i : Int)) rfl rfl (ev rfl rfl) ?_)))))))
  refine wl rfl (oassign (v := .int .i64 (i : Int)) rfl rfl (ev rfl rfl) ?_)
  refine wnil (thenN (wseq ?_))
  refine wstage 9 [16, 17, 18, 19, 20, 21, 22, 23, 24] [[], [], [0, 1], [2, 0, 1], [], [], [4, 5], [6, 4, 5], [3, 7, 0, 1, 2, 4, 5, 6]] [[], [], [], [], [], [], [], [], []] [] [] (fun i9 => ([fun _ => Is (.slice pa na ca), fun _ => Is (.int .i64 (i : Int)), fun _ => Is (.pointer (some ⟨b, (off + i * 2), none⟩)), fun _ => Is (.agg #[.int .u32 (x.1 : Int), .int .u32 (x.2 : Int)]), fun _ => Is (.slice pb nb cb), fun _ => Is (.int .i64 (i : Int)), fun _ => Is (.pointer (some ⟨b2, (off2 + i * 2), none⟩)), fun _ => Is (.agg #[.int .u32 (x.1 : Int), .int .u32 (x.2 : Int)]), fun _ => Is (.bool false)] : List (List Value → Tell)).getD i9 (fun _ _ _ => False)) (heldNil) (fun d _ _ _ _ h => (by cases d <;> exact h)) (by kernel_rfl) (by kernel_rfl) (by kernel_rfl) hS ?_ ?_
  ·
   refine stepsCons rfl (fun Q f' w' ρ S ho hT hS hB => ?_) ?_
   ·exact .inl ⟨want_none rfl, omove (v := .slice pa na ca) rfl rfl (ev rfl (ho 0 rfl)) ⟨_, _, rfl, isI, New.same _⟩⟩
   refine stepsCons rfl (fun Q f' w' ρ S ho hT hS hB => ?_) ?_
   ·exact .inl ⟨want_none rfl, omove (v := .int .i64 (i : Int)) rfl rfl (ev rfl (ho 5 rfl)) ⟨_, _, rfl, isI, New.same _⟩⟩
   refine stepsCons rfl (fun Q f' w' ρ S ho hT hS hB => ?_) ?_
   ·obtain ⟨hv0, hr0⟩ := (hT 0 16 rfl rfl : (Is (.slice pa na ca)) _ _)
    obtain ⟨hv1, hr1⟩ := (hT 1 17 rfl rfl : (Is (.int .i64 (((i : Nat) : Int)))) _ _)
    obtain hS := hS.flat2 hr0 hr1
    exact .inl ⟨want_none rfl, oindex (p := pa) (g := b) (off := off) (m := na) (k := i) (j := (off + i * 2)) rfl rfl Tryz.runUnderlying37 Tryz.sizeOf42 (ev rfl hv0) (hpx) (ev rfl hv1) (hlt) rfl ⟨_, _, rfl, isI, New.same _⟩⟩
   refine stepsCons rfl (fun Q f' w' ρ S ho hT hS hB => ?_) ?_
   ·obtain ⟨hv2, hr2⟩ := (hT 2 18 rfl rfl : (Is (.pointer (some ⟨b, (off + i * 2), none⟩))) _ _)
    obtain hS := hS.flat1 hr2
    exact .inl ⟨want_none rfl, oloadA (vs := [.int .u32 (x.1 : Int), .int .u32 (x.2 : Int)]) (show Agg Tryz.prog 42 2 from ⟨Tryz.isAgg42, Tryz.sizeOf42⟩) rfl rfl (ev (v := .pointer (some ⟨b, (off + i * 2), none⟩)) rfl hv2) (fun j v hj => hS.cellAt (hcx j v hj)) rfl ⟨_, _, rfl, isI, New.same _⟩⟩
   refine stepsCons rfl (fun Q f' w' ρ S ho hT hS hB => ?_) ?_
   ·exact .inl ⟨want_none rfl, omove (v := .slice pb nb cb) rfl rfl (ev rfl (ho 1 rfl)) ⟨_, _, rfl, isI, New.same _⟩⟩
   refine stepsCons rfl (fun Q f' w' ρ S ho hT hS hB => ?_) ?_
   ·exact .inl ⟨want_none rfl, omove (v := .int .i64 (i : Int)) rfl rfl (ev rfl (ho 5 rfl)) ⟨_, _, rfl, isI, New.same _⟩⟩
   refine stepsCons rfl (fun Q f' w' ρ S ho hT hS hB => ?_) ?_
   ·obtain ⟨hv4, hr4⟩ := (hT 4 20 rfl rfl : (Is (.slice pb nb cb)) _ _)
    obtain ⟨hv5, hr5⟩ := (hT 5 21 rfl rfl : (Is (.int .i64 (((i : Nat) : Int)))) _ _)
    obtain hS := hS.flat2 hr4 hr5
    exact .inl ⟨want_none rfl, oindex (p := pb) (g := b2) (off := off2) (m := nb) (k := i) (j := (off2 + i * 2)) rfl rfl Tryz.runUnderlying37 Tryz.sizeOf42 (ev rfl hv4) (hpy) (ev rfl hv5) ((show i < nb by omega)) rfl ⟨_, _, rfl, isI, New.same _⟩⟩
   refine stepsCons rfl (fun Q f' w' ρ S ho hT hS hB => ?_) ?_
   ·obtain ⟨hv6, hr6⟩ := (hT 6 22 rfl rfl : (Is (.pointer (some ⟨b2, (off2 + i * 2), none⟩))) _ _)
    obtain hS := hS.flat1 hr6
    exact .inl ⟨want_none rfl, oloadA (vs := [.int .u32 (x.1 : Int), .int .u32 (x.2 : Int)]) (show Agg Tryz.prog 42 2 from ⟨Tryz.isAgg42, Tryz.sizeOf42⟩) rfl rfl (ev (v := .pointer (some ⟨b2, (off2 + i * 2), none⟩)) rfl hv6) (fun j v hj => hS.cellAt (hcy j v hj)) rfl ⟨_, _, rfl, isI, New.same _⟩⟩
   refine stepsCons rfl (fun Q f' w' ρ S ho hT hS hB => ?_) ?_
   ·obtain ⟨hv3, hr3⟩ := (hT 3 19 rfl rfl : (Is (.agg #[.int .u32 (((x.1 : Nat) : Int)), .int .u32 (((x.2 : Nat) : Int))])) _ _)
    obtain ⟨hv7, hr7⟩ := (hT 7 23 rfl rfl : (Is (.agg #[.int .u32 (((x.1 : Nat) : Int)), .int .u32 (((x.2 : Nat) : Int))])) _ _)
    obtain hS := hS.flat2 hr3 hr7
    exact .inl ⟨want_none rfl, obin (u := .agg #[.int .u32 (x.1 : Int), .int .u32 (x.2 : Int)]) (v := .agg #[.int .u32 (x.1 : Int), .int .u32 (x.2 : Int)]) (z := .bool false) rfl rfl (ev rfl hv3) (ev rfl hv7) (bin_neqRest) ⟨_, _, rfl, isI, New.same _⟩⟩
   exact stepsNil
  ·
   intro vs ρ w2 f' hf hT hS
   obtain ⟨hv0, hr0⟩ := (hT 0 (by decide) : (Is (.slice pa na ca)) _ _)
   obtain ⟨hv1, hr1⟩ := (hT 1 (by decide) : (Is (.int .i64 (((i : Nat) : Int)))) _ _)
   obtain ⟨hv2, hr2⟩ := (hT 2 (by decide) : (Is (.pointer (some ⟨b, (off + i * 2), none⟩))) _ _)
   obtain ⟨hv3, hr3⟩ := (hT 3 (by decide) : (Is (.agg #[.int .u32 (((x.1 : Nat) : Int)), .int .u32 (((x.2 : Nat) : Int))])) _ _)
   obtain ⟨hv4, hr4⟩ := (hT 4 (by decide) : (Is (.slice pb nb cb)) _ _)
   obtain ⟨hv5, hr5⟩ := (hT 5 (by decide) : (Is (.int .i64 (((i : Nat) : Int)))) _ _)
   obtain ⟨hv6, hr6⟩ := (hT 6 (by decide) : (Is (.pointer (some ⟨b2, (off2 + i * 2), none⟩))) _ _)
   obtain ⟨hv7, hr7⟩ := (hT 7 (by decide) : (Is (.agg #[.int .u32 (((x.1 : Nat) : Int)), .int .u32 (((x.2 : Nat) : Int))])) _ _)
   obtain ⟨hv8, hr8⟩ := (hT 8 (by decide) : (Is (.bool false)) _ _)
   simp only [pool, if_true, hr0, hr1, hr2, hr3, hr4, hr5, hr6, hr7, hr8, List.nil_append, List.cons_append, List.append_nil] at hS
   simp only [layf, hv0, hv1, hv2, hv3, hv4, hv5, hv6, hv7, hv8] at hf
   subst hf; clear hT hv0 hv1 hv2 hv3 hv4 hv5 hv6 hv7 hv8 hr0 hr1 hr2 hr3 hr4 hr5 hr6 hr7 hr8
   refine wdone rfl ?_
   refine thenN ?_
   refine wF (ev rfl rfl) ?_
   refine wskip (blkN (thenN (wreg (wl rfl (obin (u := .int .i64 (i : Int)) (v := .int .i64 1) (z := .int .i64 (((i + 1 : Nat) : Int))) rfl rfl (ev rfl rfl) evc (bin_add (wrap_i64 (by omega) (by omega))) ?_)))))
   refine wl rfl (omove (v := .int .i64 (((i + 1 : Nat) : Int))) rfl rfl (ev rfl rfl) ?_)
   refine wnil (thenN ?_)
   exact ⟨(i + 1), ⟨_, act_sets (l := [(0, .slice pa na ca), (1, .slice pb nb cb), (12, .int .i64 (na : Int)), (13, .int .i64 (((i + 1 : Nat) : Int)))]) ⟨rfl, rfl, rfl, rfl, trivial⟩, hS.pick [] (by decide) rfl, by omega⟩, by omega⟩
 ·
  refine wl rfl (obin (u := .int .i64 (i : Int)) (v := .int .i64 (na : Int)) (z := .bool false) rfl rfl (ev rfl rfl) (ev rfl rfl) (bin_lss (decide_eq_false (by omega))) ?_)
  refine wnil (thenN (wseq ?_))
  refine wF (ev rfl rfl) ?_
  refine wexit ?_
  refine thenE ?_
  refine thenE ?_
  refine blkE ?_
  refine thenN (wseq (wreg (wl rfl (oassign (v := .bool true) rfl rfl evc ?_))))
  refine wnil (thenN ?_)
  refine wleave ?_
  refine wret1 Tryz.results53 (tellT (v := .bool true) rfl rfl) ?_
  exact ⟨_, _, rfl, isI, hS.new0⟩
theorem wlspoil3 {w0 w : World} {R : List Res} {g c : Nat} {p1 : Option Addr} {n1 c1 : Nat} {xs1 : List Nat} {p2 : Option Addr} {n2 c2 : Nat} {xs2 : List Nat} {p3 : Option Addr} {n3 c3 : Nat} {xs3 : List Nat} (hS : Sep w0 (.blk g [.slice p1 n1 c1, .slice p2 n2 c2, .slice p3 n3 c3] 26 :: .rowm p1 n1 c1 xs1 :: .rowm p2 n2 c2 xs2 :: .rowm p3 n3 c3 xs3 :: R) w) (hb1 : n1 ≤ 4294967296) (hb2 : n2 ≤ 4294967296) (hb3 : n3 ≤ 4294967296) :
  Calls Tryz.prog 47 #[.slice (some ⟨g, 0, none⟩) 3 c] w (RetS (Is (.tuple #[])) w0 R) := by
 refine went Tryz.func47 rfl (n := 21) rfl rfl ?_
 refine wseq (wreg (wl rfl (omove (v := .slice (some ⟨g, 0, none⟩) 3 c) rfl rfl (ev rfl rfl) ?_)))
 refine wl rfl (olen rfl rfl rfl Tryz.runUnderlying124 (p := (some ⟨g, 0, none⟩)) (k := 3) (m := c) (ev rfl rfl) ?_)
 refine wl rfl (omove (v := .int .i64 0) rfl rfl evc ?_)
 refine wnil (thenN (wblock ?_))
 refine wloop (σ := Nat) (fun i a9 w' => ∃ (fb : Nat → Value) (ys1 : List Nat) (ys2 : List Nat) (ys3 : List Nat), a9 = act 21 (sets fb [(5, .slice (some ⟨g, 0, none⟩) 3 c), (6, .int .i64 (((3 : Nat) : Int))), (7, .int .i64 (i : Int))]) ∧ Sep w0 (.blk g [.slice p1 n1 c1, .slice p2 n2 c2, .slice p3 n3 c3] 26 :: .rowm p1 n1 c1 ys1 :: .rowm p2 n2 c2 ys2 :: .rowm p3 n3 c3 ys3 :: R) w' ∧ (i ≤ 3)) (fun i => 3 - i) (0) ⟨_, _, _, _, act_sets (l := [(5, .slice (some ⟨g, 0, none⟩) 3 c), (6, .int .i64 (((3 : Nat) : Int))), (7, .int .i64 0)]) ⟨rfl, rfl, rfl, trivial⟩, hS, Nat.zero_le _⟩ ?_
 clear hS; rintro i _ w1 ⟨fb, ys1, ys2, ys3, rfl, hS, hi⟩
 refine wseq (wreg ?_)
 by_cases hlt : i < 3
 ·
  by_cases h1 : i = 0
  ·
   subst h1
   refine wl rfl (obin (u := .int .i64 (((0 : Nat) : Int))) (v := .int .i64 (((3 : Nat) : Int))) (z := .bool true) rfl rfl (ev rfl rfl) (ev rfl rfl) (bin_lss (decide_eq_true (by omega))) ?_)
   refine wnil (thenN (wseq ?_))
   refine wT (ev rfl rfl) ?_
   refine wskip (thenN (wseq (wblock (wseq (wreg (wl rfl (oindex (p := (some ⟨g, 0, none⟩)) (g := g) (off := 0) (m := 3) (k := 0) (j := 0) rfl rfl Tryz.runUnderlying124 Tryz.sizeOf26 (ev rfl rfl) (rfl) (ev rfl rfl) (by omega) rfl ?_)))))))
   refine wl rfl (oload1 (v := .slice p1 n1 c1) oneN hS 0 rfl rfl (ev rfl rfl) rfl rfl ?_)
   refine wl rfl (oassign (v := .slice p1 n1 c1) rfl rfl (ev rfl rfl) ?_)
   refine wnil (thenN (wseq (wreg (wl rfl (omove (v := .slice p1 n1 c1) rfl rfl (ev rfl rfl) ?_)))))
   refine wl rfl (olen rfl rfl rfl Tryz.runUnderlying26 (p := p1) (k := n1) (m := c1) (ev rfl rfl) ?_)
   refine wl rfl (omove (v := .int .i64 0) rfl rfl evc ?_)
   refine wnil (thenN (wblock ?_))
   refine wloop (σ := Nat) (fun j a9 w' => ∃ (fb : Nat → Value) (zs1 : List Nat), a9 = act 21 (sets fb [(3, .slice p1 n1 c1), (5, .slice (some ⟨g, 0, none⟩) 3 c), (6, .int .i64 (((3 : Nat) : Int))), (7, .int .i64 (((0 : Nat) : Int))), (12, .int .i64 (n1 : Int)), (13, .int .i64 (j : Int))]) ∧ Sep w0 (.blk g [.slice p1 n1 c1, .slice p2 n2 c2, .slice p3 n3 c3] 26 :: .rowm p1 n1 c1 zs1 :: .rowm p2 n2 c2 ys2 :: .rowm p3 n3 c3 ys3 :: R) w' ∧ (j ≤ n1)) (fun j => n1 - j) (0) ⟨_, _, act_sets (l := [(3, .slice p1 n1 c1), (5, .slice (some ⟨g, 0, none⟩) 3 c), (6, .int .i64 (((3 : Nat) : Int))), (7, .int .i64 (((0 : Nat) : Int))), (12, .int .i64 (n1 : Int)), (13, .int .i64 0)]) ⟨rfl, rfl, rfl, rfl, rfl, rfl, trivial⟩, hS, Nat.zero_le _⟩ ?_
   clear hS; rintro j _ w2 ⟨fb, zs1, rfl, hS, hj⟩
   refine wseq (wreg ?_)
   by_cases hlj : j < n1
   ·
    obtain ⟨gr, hgr, _, _⟩ := (hS.rowmAt 1 rfl).pos (by omega)
    refine wl rfl (obin (u := .int .i64 (j : Int)) (v := .int .i64 (n1 : Int)) (z := .bool true) rfl rfl (ev rfl rfl) (ev rfl rfl) (bin_lss (decide_eq_true (by omega))) ?_)
    refine wnil (thenN (wseq ?_))
    refine wT (ev rfl rfl) ?_
    refine wskip (thenN (wseq (wblock (wseq (wreg (wl rfl (omove (v := .int .i64 (j : Int)) rfl rfl (ev rfl rfl) ?_)))))))
    refine wl rfl (oassign (v := .int .i64 (j : Int)) rfl rfl (ev rfl rfl) ?_)
    refine wnil (thenN (wreg (wl rfl (omove (v := .slice p1 n1 c1) rfl rfl (ev rfl rfl) ?_))))
    refine wl rfl (omove (v := .int .i64 (j : Int)) rfl rfl (ev rfl rfl) ?_)
    refine wl rfl (oindex (p := p1) (g := gr) (off := 0) (m := n1) (k := j) (j := j) rfl rfl Tryz.runUnderlying26 Tryz.sizeOf40 (ev rfl rfl) (hgr) (ev rfl rfl) (hlj) (by simp) ?_)
    refine wl rfl (ostoreRow (i := j) (u := 9) Tryz.sizeOf40 hS 1 rfl rfl (ev (v := .pointer (some ⟨gr, j, none⟩)) rfl rfl) (evc (v := .int .u32 ((9 : Nat) : Int))) rfl (hgr) ((by omega)) (by omega) ?_)
    clear hS; intro w3 hS
    refine wnil (blkN (thenN (wreg (wl rfl (obin (u := .int .i64 (j : Int)) (v := .int .i64 1) (z := .int .i64 (((j + 1 : Nat) : Int))) rfl rfl (ev rfl rfl) evc (bin_add (wrap_i64 (by omega) (by omega))) ?_)))))
    refine wl rfl (omove (v := .int .i64 (((j + 1 : Nat) : Int))) rfl rfl (ev rfl rfl) ?_)
    refine wnil (thenN ?_)
    exact ⟨(j + 1), ⟨_, _, act_sets (l := [(3, .slice p1 n1 c1), (5, .slice (some ⟨g, 0, none⟩) 3 c), (6, .int .i64 (((3 : Nat) : Int))), (7, .int .i64 (((0 : Nat) : Int))), (12, .int .i64 (n1 : Int)), (13, .int .i64 (((j + 1 : Nat) : Int)))]) ⟨rfl, rfl, rfl, rfl, rfl, rfl, trivial⟩, Sep.pickT [.blk g [.slice p1 n1 c1, .slice p2 n2 c2, .slice p3 n3 c3] 26, .rowm p1 n1 c1 ((zs1).set j 9), .rowm p2 n2 c2 ys2, .rowm p3 n3 c3 ys3] [.blk g [.slice p1 n1 c1, .slice p2 n2 c2, .slice p3 n3 c3] 26, .rowm p1 n1 c1 ((zs1).set j 9), .rowm p2 n2 c2 ys2, .rowm p3 n3 c3 ys3] hS [0, 1, 2, 3] (by decide) rfl, by omega⟩, by omega⟩
   ·
    refine wl rfl (obin (u := .int .i64 (j : Int)) (v := .int .i64 (n1 : Int)) (z := .bool false) rfl rfl (ev rfl rfl) (ev rfl rfl) (bin_lss (decide_eq_false (by omega))) ?_)
    refine wnil (thenN (wseq ?_))
    refine wF (ev rfl rfl) ?_
    refine wexit ?_
    refine thenE ?_
    refine thenE ?_
    refine blkE ?_
    refine blkN (thenN (wreg (wl rfl (obin (u := .int .i64 (((0 : Nat) : Int))) (v := .int .i64 1) (z := .int .i64 (((0 + 1 : Nat) : Int))) rfl rfl (ev rfl rfl) evc (bin_add (wrap_i64 (by omega) (by omega))) ?_))))
    refine wl rfl (omove (v := .int .i64 (((0 + 1 : Nat) : Int))) rfl rfl (ev rfl rfl) ?_)
    refine wnil (thenN ?_)
    exact ⟨(0 + 1), ⟨_, _, _, _, act_sets (l := [(5, .slice (some ⟨g, 0, none⟩) 3 c), (6, .int .i64 (((3 : Nat) : Int))), (7, .int .i64 (((0 + 1 : Nat) : Int)))]) ⟨rfl, rfl, rfl, trivial⟩, Sep.pickT [.blk g [.slice p1 n1 c1, .slice p2 n2 c2, .slice p3 n3 c3] 26, .rowm p1 n1 c1 zs1, .rowm p2 n2 c2 ys2, .rowm p3 n3 c3 ys3] [.blk g [.slice p1 n1 c1, .slice p2 n2 c2, .slice p3 n3 c3] 26, .rowm p1 n1 c1 zs1, .rowm p2 n2 c2 ys2, .rowm p3 n3 c3 ys3] hS [0, 1, 2, 3] (by decide) rfl, by omega⟩, by omega⟩
  ·
   by_cases h2 : i = 1
   ·
    subst h2
    refine wl rfl (obin (u := .int .i64 (((1 : Nat) : Int))) (v := .int .i64 (((3 : Nat) : Int))) (z := .bool true) rfl rfl (ev rfl rfl) (ev rfl rfl) (bin_lss (decide_eq_true (by omega))) ?_)
    refine wnil (thenN (wseq ?_))
    refine wT (ev rfl rfl) ?_
    refine wskip (thenN (wseq (wblock (wseq (wreg (wl rfl (oindex (p := (some ⟨g, 0, none⟩)) (g := g) (off := 0) (m := 3) (k := 1) (j := 1) rfl rfl Tryz.runUnderlying124 Tryz.sizeOf26 (ev rfl rfl) (rfl) (ev rfl rfl) (by omega) rfl ?_)))))))
    refine wl rfl (oload1 (v := .slice p2 n2 c2) oneN hS 0 rfl rfl (ev rfl rfl) rfl rfl ?_)
    refine wl rfl (oassign (v := .slice p2 n2 c2) rfl rfl (ev rfl rfl) ?_)
    refine wnil (thenN (wseq (wreg (wl rfl (omove (v := .slice p2 n2 c2) rfl rfl (ev rfl rfl) ?_)))))
    refine wl rfl (olen rfl rfl rfl Tryz.runUnderlying26 (p := p2) (k := n2) (m := c2) (ev rfl rfl) ?_)
    refine wl rfl (omove (v := .int .i64 0) rfl rfl evc ?_)
    refine wnil (thenN (wblock ?_))
    refine wloop (σ := Nat) (fun j a9 w' => ∃ (fb : Nat → Value) (zs2 : List Nat), a9 = act 21 (sets fb [(3, .slice p2 n2 c2), (5, .slice (some ⟨g, 0, none⟩) 3 c), (6, .int .i64 (((3 : Nat) : Int))), (7, .int .i64 (((1 : Nat) : Int))), (12, .int .i64 (n2 : Int)), (13, .int .i64 (j : Int))]) ∧ Sep w0 (.blk g [.slice p1 n1 c1, .slice p2 n2 c2, .slice p3 n3 c3] 26 :: .rowm p1 n1 c1 ys1 :: .rowm p2 n2 c2 zs2 :: .rowm p3 n3 c3 ys3 :: R) w' ∧ (j ≤ n2)) (fun j => n2 - j) (0) ⟨_, _, act_sets (l := [(3, .slice p2 n2 c2), (5, .slice (some ⟨g, 0, none⟩) 3 c), (6, .int .i64 (((3 : Nat) : Int))), (7, .int .i64 (((1 : Nat) : Int))), (12, .int .i64 (n2 : Int)), (13, .int .i64 0)]) ⟨rfl, rfl, rfl, rfl, rfl, rfl, trivial⟩, hS, Nat.zero_le _⟩ ?_
    clear hS; rintro j _ w2 ⟨fb, zs2, rfl, hS, hj⟩
    refine wseq (wreg ?_)
    by_cases hlj : j < n2
    ·
     obtain ⟨gr, hgr, _, _⟩ := (hS.rowmAt 2 rfl).pos (by omega)
     refine wl rfl (obin (u := .int .i64 (j : Int)) (v := .int .i64 (n2 : Int)) (z := .bool true) rfl rfl (ev rfl rfl) (ev rfl rfl) (bin_lss (decide_eq_true (by omega))) ?_)
     refine wnil (thenN (wseq ?_))
     refine wT (ev rfl rfl) ?_
     refine wskip (thenN (wseq (wblock (wseq (wreg (wl rfl (omove (v := .int .i64 (j : Int)) rfl rfl (ev rfl rfl) ?_)))))))
     refine wl rfl (oassign (v := .int .i64 (j : Int)) rfl rfl (ev rfl rfl) ?_)
     refine wnil (thenN (wreg (wl rfl (omove (v := .slice p2 n2 c2) rfl rfl (ev rfl rfl) ?_))))
     refine wl rfl (omove (v := .int .i64 (j : Int)) rfl rfl (ev rfl rfl) ?_)
     refine wl rfl (oindex (p := p2) (g := gr) (off := 0) (m := n2) (k := j) (j := j) rfl rfl Tryz.runUnderlying26 Tryz.sizeOf40 (ev rfl rfl) (hgr) (ev rfl rfl) (hlj) (by simp) ?_)
     refine wl rfl (ostoreRow (i := j) (u := 9) Tryz.sizeOf40 hS 2 rfl rfl (ev (v := .pointer (some ⟨gr, j, none⟩)) rfl rfl) (evc (v := .int .u32 ((9 : Nat) : Int))) rfl (hgr) ((by omega)) (by omega) ?_)
     clear hS; intro w3 hS
     refine wnil (blkN (thenN (wreg (wl rfl (obin (u := .int .i64 (j : Int)) (v := .int .i64 1) (z := .int .i64 (((j + 1 : Nat) : Int))) rfl rfl (ev rfl rfl) evc (bin_add (wrap_i64 (by omega) (by omega))) ?_)))))
     refine wl rfl (omove (v := .int .i64 (((j + 1 : Nat) : Int))) rfl rfl (ev rfl rfl) ?_)
     refine wnil (thenN ?_)
     exact ⟨(j + 1), ⟨_, _, act_sets (l := [(3, .slice p2 n2 c2), (5, .slice (some ⟨g, 0, none⟩) 3 c), (6, .int .i64 (((3 : Nat) : Int))), (7, .int .i64 (((1 : Nat) : Int))), (12, .int .i64 (n2 : Int)), (13, .int .i64 (((j + 1 : Nat) : Int)))]) ⟨rfl, rfl, rfl, rfl, rfl, rfl, trivial⟩, Sep.pickT [.blk g [.slice p1 n1 c1, .slice p2 n2 c2, .slice p3 n3 c3] 26, .rowm p1 n1 c1 ys1, .rowm p2 n2 c2 ((zs2).set j 9), .rowm p3 n3 c3 ys3] [.blk g [.slice p1 n1 c1, .slice p2 n2 c2, .slice p3 n3 c3] 26, .rowm p1 n1 c1 ys1, .rowm p2 n2 c2 ((zs2).set j 9), .rowm p3 n3 c3 ys3] hS [0, 1, 2, 3] (by decide) rfl, by omega⟩, by omega⟩
    ·
     refine wl rfl (obin (u := .int .i64 (j : Int)) (v := .int .i64 (n2 : Int)) (z := .bool false) rfl rfl (ev rfl rfl) (ev rfl rfl) (bin_lss (decide_eq_false (by omega))) ?_)
     refine wnil (thenN (wseq ?_))
     refine wF (ev rfl rfl) ?_
     refine wexit ?_
     refine thenE ?_
     refine thenE ?_
     refine blkE ?_
     refine blkN (thenN (wreg (wl rfl (obin (u := .int .i64 (((1 : Nat) : Int))) (v := .int .i64 1) (z := .int .i64 (((1 + 1 : Nat) : Int))) rfl rfl (ev rfl rfl) evc (bin_add (wrap_i64 (by omega) (by omega))) ?_))))
     refine wl rfl (omove (v := .int .i64 (((1 + 1 : Nat) : Int))) rfl rfl (ev rfl rfl) ?_)
     refine wnil (thenN ?_)
     exact ⟨(1 + 1), ⟨_, _, _, _, act_sets (l := [(5, .slice (some ⟨g, 0, none⟩) 3 c), (6, .int .i64 (((3 : Nat) : Int))), (7, .int .i64 (((1 + 1 : Nat) : Int)))]) ⟨rfl, rfl, rfl, trivial⟩, Sep.pickT [.blk g [.slice p1 n1 c1, .slice p2 n2 c2, .slice p3 n3 c3] 26, .rowm p1 n1 c1 ys1, .rowm p2 n2 c2 zs2, .rowm p3 n3 c3 ys3] [.blk g [.slice p1 n1 c1, .slice p2 n2 c2, .slice p3 n3 c3] 26, .rowm p1 n1 c1 ys1, .rowm p2 n2 c2 zs2, .rowm p3 n3 c3 ys3] hS [0, 1, 2, 3] (by decide) rfl, by omega⟩, by omega⟩
   ·
    by_cases h3 : i = 2
    ·
     subst h3
     refine wl rfl (obin (u := .int .i64 (((2 : Nat) : Int))) (v := .int .i64 (((3 : Nat) : Int))) (z := .bool true) rfl rfl (ev rfl rfl) (ev rfl rfl) (bin_lss (decide_eq_true (by omega))) ?_)
     refine wnil (thenN (wseq ?_))
     refine wT (ev rfl rfl) ?_
     refine wskip (thenN (wseq (wblock (wseq (wreg (wl rfl (oindex (p := (some ⟨g, 0, none⟩)) (g := g) (off := 0) (m := 3) (k := 2) (j := 2) rfl rfl Tryz.runUnderlying124 Tryz.sizeOf26 (ev rfl rfl) (rfl) (ev rfl rfl) (by omega) rfl ?_)))))))
     refine wl rfl (oload1 (v := .slice p3 n3 c3) oneN hS 0 rfl rfl (ev rfl rfl) rfl rfl ?_)
     refine wl rfl (oassign (v := .slice p3 n3 c3) rfl rfl (ev rfl rfl) ?_)
     refine wnil (thenN (wseq (wreg (wl rfl (omove (v := .slice p3 n3 c3) rfl rfl (ev rfl rfl) ?_)))))
     refine wl rfl (olen rfl rfl rfl Tryz.runUnderlying26 (p := p3) (k := n3) (m := c3) (ev rfl rfl) ?_)
     refine wl rfl (omove (v := .int .i64 0) rfl rfl evc ?_)
     refine wnil (thenN (wblock ?_))
     refine wloop (σ := Nat) (fun j a9 w' => ∃ (fb : Nat → Value) (zs3 : List Nat), a9 = act 21 (sets fb [(3, .slice p3 n3 c3), (5, .slice (some ⟨g, 0, none⟩) 3 c), (6, .int .i64 (((3 : Nat) : Int))), (7, .int .i64 (((2 : Nat) : Int))), (12, .int .i64 (n3 : Int)), (13, .int .i64 (j : Int))]) ∧ Sep w0 (.blk g [.slice p1 n1 c1, .slice p2 n2 c2, .slice p3 n3 c3] 26 :: .rowm p1 n1 c1 ys1 :: .rowm p2 n2 c2 ys2 :: .rowm p3 n3 c3 zs3 :: R) w' ∧ (j ≤ n3)) (fun j => n3 - j) (0) ⟨_, _, act_sets (l := [(3, .slice p3 n3 c3), (5, .slice (some ⟨g, 0, none⟩) 3 c), (6, .int .i64 (((3 : Nat) : Int))), (7, .int .i64 (((2 : Nat) : Int))), (12, .int .i64 (n3 : Int)), (13, .int .i64 0)]) ⟨rfl, rfl, rfl, rfl, rfl, rfl, trivial⟩, hS, Nat.zero_le _⟩ ?_
     clear hS; rintro j _ w2 ⟨fb, zs3, rfl, hS, hj⟩
     refine wseq (wreg ?_)
     by_cases hlj : j < n3
     ·
      obtain ⟨gr, hgr, _, _⟩ := (hS.rowmAt 3 rfl).pos (by omega)
      refine wl rfl (obin (u := .int .i64 (j : Int)) (v := .int .i64 (n3 : Int)) (z := .bool true) rfl rfl (ev rfl rfl) (ev rfl rfl) (bin_lss (decide_eq_true (by omega))) ?_)
      refine wnil (thenN (wseq ?_))
      refine wT (ev rfl rfl) ?_
      refine wskip (thenN (wseq (wblock (wseq (wreg (wl rfl (omove (v := .int .i64 (j : Int)) rfl rfl (ev rfl rfl) ?_)))))))
      refine wl rfl (oassign (v := .int .i64 (j : Int)) rfl rfl (ev rfl rfl) ?_)
      refine wnil (thenN (wreg (wl rfl (omove (v := .slice p3 n3 c3) rfl rfl (ev rfl rfl) ?_))))
      refine wl rfl (omove (v := .int .i64 (j : Int)) rfl rfl (ev rfl rfl) ?_)
      refine wl rfl (oindex (p := p3) (g := gr) (off := 0) (m := n3) (k := j) (j := j) rfl rfl Tryz.runUnderlying26 Tryz.sizeOf40 (ev rfl rfl) (hgr) (ev rfl rfl) (hlj) (by simp) ?_)
      refine wl rfl (ostoreRow (i := j) (u := 9) Tryz.sizeOf40 hS 3 rfl rfl (ev (v := .pointer (some ⟨gr, j, none⟩)) rfl rfl) (evc (v := .int .u32 ((9 : Nat) : Int))) rfl (hgr) ((by omega)) (by omega) ?_)
      clear hS; intro w3 hS
      refine wnil (blkN (thenN (wreg (wl rfl (obin (u := .int .i64 (j : Int)) (v := .int .i64 1) (z := .int .i64 (((j + 1 : Nat) : Int))) rfl rfl (ev rfl rfl) evc (bin_add (wrap_i64 (by omega) (by omega))) ?_)))))
      refine wl rfl (omove (v := .int .i64 (((j + 1 : Nat) : Int))) rfl rfl (ev rfl rfl) ?_)
      refine wnil (thenN ?_)
      exact ⟨(j + 1), ⟨_, _, act_sets (l := [(3, .slice p3 n3 c3), (5, .slice (some ⟨g, 0, none⟩) 3 c), (6, .int .i64 (((3 : Nat) : Int))), (7, .int .i64 (((2 : Nat) : Int))), (12, .int .i64 (n3 : Int)), (13, .int .i64 (((j + 1 : Nat) : Int)))]) ⟨rfl, rfl, rfl, rfl, rfl, rfl, trivial⟩, Sep.pickT [.blk g [.slice p1 n1 c1, .slice p2 n2 c2, .slice p3 n3 c3] 26, .rowm p1 n1 c1 ys1, .rowm p2 n2 c2 ys2, .rowm p3 n3 c3 ((zs3).set j 9)] [.blk g [.slice p1 n1 c1, .slice p2 n2 c2, .slice p3 n3 c3] 26, .rowm p1 n1 c1 ys1, .rowm p2 n2 c2 ys2, .rowm p3 n3 c3 ((zs3).set j 9)] hS [0, 1, 2, 3] (by decide) rfl, by omega⟩, by omega⟩
     ·
      refine wl rfl (obin (u := .int .i64 (j : Int)) (v := .int .i64 (n3 : Int)) (z := .bool false) rfl rfl (ev rfl rfl) (ev rfl rfl) (bin_lss (decide_eq_false (by omega))) ?_)
      refine wnil (thenN (wseq ?_))
      refine wF (ev rfl rfl) ?_
      refine wexit ?_
      refine thenE ?_
      refine thenE ?_
      refine blkE ?_
      refine blkN (thenN (wreg (wl rfl (obin (u := .int .i64 (((2 : Nat) : Int))) (v := .int .i64 1) (z := .int .i64 (((2 + 1 : Nat) : Int))) rfl rfl (ev rfl rfl) evc (bin_add (wrap_i64 (by omega) (by omega))) ?_))))
      refine wl rfl (omove (v := .int .i64 (((2 + 1 : Nat) : Int))) rfl rfl (ev rfl rfl) ?_)
      refine wnil (thenN ?_)
      exact ⟨(2 + 1), ⟨_, _, _, _, act_sets (l := [(5, .slice (some ⟨g, 0, none⟩) 3 c), (6, .int .i64 (((3 : Nat) : Int))), (7, .int .i64 (((2 + 1 : Nat) : Int)))]) ⟨rfl, rfl, rfl, trivial⟩, Sep.pickT [.blk g [.slice p1 n1 c1, .slice p2 n2 c2, .slice p3 n3 c3] 26, .rowm p1 n1 c1 ys1, .rowm p2 n2 c2 ys2, .rowm p3 n3 c3 zs3] [.blk g [.slice p1 n1 c1, .slice p2 n2 c2, .slice p3 n3 c3] 26, .rowm p1 n1 c1 ys1, .rowm p2 n2 c2 ys2, .rowm p3 n3 c3 zs3] hS [0, 1, 2, 3] (by decide) rfl, by omega⟩, by omega⟩
    ·
     omega
 ·
  refine wl rfl (obin (u := .int .i64 (i : Int)) (v := .int .i64 (((3 : Nat) : Int))) (z := .bool false) rfl rfl (ev rfl rfl) (ev rfl rfl) (bin_lss (decide_eq_false (by omega))) ?_)
  refine wnil (thenN (wseq ?_))
  refine wF (ev rfl rfl) ?_
  refine wexit ?_
  refine thenE ?_
  refine thenE ?_
  refine blkE ?_
  refine wret0n Tryz.results47 ?_
  exact ⟨_, _, rfl, isI, hS.behind [.blk g [.slice p1 n1 c1, .slice p2 n2 c2, .slice p3 n3 c3] 26, .rowm p1 n1 c1 ys1, .rowm p2 n2 c2 ys2, .rowm p3 n3 c3 ys3]⟩
end Go.Proofs.YtjbcjlbbipohjaaGreatDoor
