
/-
  nat.Bits: the iterator over the places of the ones.
-/
import Derived.Test.YtgemncfpehmdeaaDoorTz3
import Derived.Test.YtgemncfpehmdeaaDoorOnes
set_option linter.unusedVariables false
set_option linter.unusedSimpArgs false
namespace Go.Proofs.YtgemncfpehmdeaaDoor
open Go.RowKit

theorem onesFrom_at {L : List Nat} {i : Nat} (h : i < L.length) : onesFrom i (L.drop i) = (obs (nd L i)).map (32 * i + ·) ++ onesFrom (i + 1) (L.drop (i + 1)) := by
  rw [List.drop_eq_getElem_cons h]
  have : nd L i = L[i] := by unfold nd; simp [h]
  rw [this]; rfl
theorem onesFrom_end {L : List Nat} {i : Nat} (h : L.length ≤ i) : onesFrom i (L.drop i) = [] := by
  rw [List.drop_eq_nil_of_le h]; rfl

set_option maxRecDepth 100000 in
set_option maxHeartbeats 16000000 in
theorem bits_iter {L : List Nat} {w0 : World} (ht : Tab w0) {gb : Nat} {pL : Option Addr} {nL cL : Nat} (hn : nL ≤ 2097152) :
    Iter Tryd.prog 25 #[.pointer (some ⟨gb, 0, none⟩)] (fun (j : Nat) => Is (.int .i64 (j : Int))) (onesFrom 0 L) w0 [.blk gb [.slice pL nL cL] 23, .row pL nL cL L] := by
  intro l I Ix Rc w hY hI0 hS
  show Calls Tryd.prog 25 #[.func (.yield l) #[] #[], .pointer (some ⟨gb, 0, none⟩)] w _
  have hlen : L.length = nL := (hS.sl 1 rfl).len
  have hlim : ∀ i, nd L i < 4294967296 := (hS.sl 1 rfl).lim1
  refine went Tryd.func25 rfl (n := 27) rfl rfl ?_
  refine wseq ?_
  refine wreg ?_
  refine wl rfl (oload1 (v := .slice pL nL cL) oneN hS 0 rfl rfl (ev rfl rfl) rfl rfl ?_)
  refine wl rfl (olen rfl rfl rfl Tryd.runUnderlying23 (p := pL) (k := nL) (m := cL) (ev (v := .slice pL nL cL) rfl rfl) ?_)
  refine wl rfl (omove (v := .int .i64 0) rfl rfl (evc (v := .int .i64 0)) ?_)
  refine wnil ?_
  refine thenN ?_
  refine wblock ?_
  refine wloop (σ := Nat) (fun i a w' => ∃ (fb : Nat → Value) (pre : List Nat) (Rc : List Res), a = act 27 (sets fb [(0, .func (.yield l) #[] #[]), (5, .slice pL nL cL), (6, .int .i64 (((nL : Nat) : Int))), (7, .int .i64 (((i : Nat) : Int)))]) ∧ Sep w0 (.blk gb [.slice pL nL cL] 23 :: .row pL nL cL L :: Rc) w' ∧ (i ≤ nL) ∧ (onesFrom 0 L = pre ++ onesFrom i (L.drop i)) ∧ (I pre Rc)) (fun i => nL - i) (0) ⟨_, _, _, act_sets (l := [(0, .func (.yield l) #[] #[]), (5, .slice pL nL cL), (6, .int .i64 (((nL : Nat) : Int))), (7, .int .i64 0)]) ⟨rfl, rfl, rfl, rfl, trivial⟩, hS, Nat.zero_le _, (List.nil_append _).symm, hI0⟩ ?_
  clear hS; rintro i _ w1 ⟨fb, pre, Rc, rfl, hS, hi, hpre, hI⟩
  refine wseq ?_
  refine wreg ?_
  by_cases hlt : i < nL
  ·
    refine wl rfl (obin (u := .int .i64 (((i : Nat) : Int))) (v := .int .i64 (((nL : Nat) : Int))) (z := .bool true) rfl rfl (ev (v := .int .i64 (((i : Nat) : Int))) rfl rfl) (ev (v := .int .i64 (((nL : Nat) : Int))) rfl rfl) (bin_lss (decide_eq_true (by omega))) ?_)
    refine wnil ?_
    refine thenN ?_
    refine wseq ?_
    refine wT (ev (v := .bool true) rfl rfl) ?_
    refine wskip ?_
    refine thenN ?_
    refine wseq ?_
    refine wblock ?_
    refine wseq ?_
    refine wreg ?_
    refine wl rfl (omove (v := .int .i64 (((i : Nat) : Int))) rfl rfl (ev (v := .int .i64 (((i : Nat) : Int))) rfl rfl) ?_)
    obtain ⟨gx, ox, hpx0, hcx⟩ := (hS.sl 1 rfl).cell i hlt
    refine wl rfl (oindex (p := pL) (g := gx) (off := ox) (m := nL) (k := i) (j := (ox + i)) rfl rfl Tryd.runUnderlying23 Tryd.sizeOf31 (ev (v := .slice pL nL cL) rfl rfl) (hpx0) (ev (v := .int .i64 (((i : Nat) : Int))) rfl rfl) (hlt) (by omega) ?_)
    refine wl rfl (oloadc (v := .int .u32 (((nd L i : Nat) : Int))) one32 rfl rfl (ev (v := .pointer (some ⟨gx, (ox + i), none⟩)) rfl rfl) (hcx) ?_)
    refine wl rfl (oassign (v := .int .i64 (((i : Nat) : Int))) rfl rfl (ev (v := .int .i64 (((i : Nat) : Int))) rfl rfl) ?_)
    refine wl rfl (oassign (v := .int .u32 (((nd L i : Nat) : Int))) rfl rfl (ev (v := .int .u32 (((nd L i : Nat) : Int))) rfl rfl) ?_)
    refine wnil ?_
    refine thenN ?_
    refine wblock ?_
    have hpre1 := hpre.trans (congrArg (pre ++ ·) (onesFrom_at (L := L) (i := i) (by omega)))
    refine wloop (σ := Nat) (fun x a w' => ∃ (fb : Nat → Value) (pre2 : List Nat) (Rc : List Res), a = act 27 (sets fb [(0, .func (.yield l) #[] #[]), (3, .int .i64 (((i : Nat) : Int))), (4, .int .u32 (((x : Nat) : Int))), (5, .slice pL nL cL), (6, .int .i64 (((nL : Nat) : Int))), (7, .int .i64 (((i : Nat) : Int))), (8, .bool true), (9, .int .i64 (((i : Nat) : Int))), (10, .pointer (some ⟨gx, (ox + i), none⟩)), (11, .int .u32 (((nd L i : Nat) : Int)))]) ∧ Sep w0 (.blk gb [.slice pL nL cL] 23 :: .row pL nL cL L :: Rc) w' ∧ (x < 4294967296) ∧ (onesFrom 0 L = pre2 ++ ((obs x).map (32 * i + ·) ++ onesFrom (i + 1) (L.drop (i + 1)))) ∧ (I pre2 Rc)) (fun x => x) ((nd L i)) ⟨_, _, _, act_sets (l := [(0, .func (.yield l) #[] #[]), (3, .int .i64 (((i : Nat) : Int))), (4, .int .u32 (((nd L i : Nat) : Int))), (5, .slice pL nL cL), (6, .int .i64 (((nL : Nat) : Int))), (7, .int .i64 (((i : Nat) : Int))), (8, .bool true), (9, .int .i64 (((i : Nat) : Int))), (10, .pointer (some ⟨gx, (ox + i), none⟩)), (11, .int .u32 (((nd L i : Nat) : Int)))]) ⟨rfl, rfl, rfl, rfl, rfl, rfl, rfl, rfl, rfl, rfl, trivial⟩, hS, hlim i, hpre1, hI⟩ ?_
    clear hS; rintro x _ w2 ⟨fb, pre2, Rc, rfl, hS, hx, hpre2, hI⟩
    refine wseq ?_
    refine wseq ?_
    refine wreg ?_
    refine wl rfl (omove (v := .int .u32 (((x : Nat) : Int))) rfl rfl (ev (v := .int .u32 (((x : Nat) : Int))) rfl rfl) ?_)
    by_cases hx00 : x = 0
    ·
      refine wl rfl (obin (u := .int .u32 (((x : Nat) : Int))) (v := .int .u32 0) (z := .bool false) rfl rfl (ev (v := .int .u32 (((x : Nat) : Int))) rfl rfl) (evc (v := .int .u32 0)) (bin_neq ((by rw [hx00]; decide))) ?_)
      refine wnil ?_
      refine thenN ?_
      refine wF (ev (v := .bool false) rfl rfl) ?_
      refine wexit ?_
      refine thenE ?_
      refine thenE ?_
      refine blkE ?_
      refine blkN ?_
      refine thenN ?_
      refine wreg ?_
      refine wl rfl (obin (u := .int .i64 (((i : Nat) : Int))) (v := .int .i64 1) (z := .int .i64 (((i + 1 : Nat) : Int))) rfl rfl (ev (v := .int .i64 (((i : Nat) : Int))) rfl rfl) (evc (v := .int .i64 1)) (bin_add (wrap_i64 (by omega) (by omega))) ?_)
      refine wl rfl (omove (v := .int .i64 (((i + 1 : Nat) : Int))) rfl rfl (ev (v := .int .i64 (((i + 1 : Nat) : Int))) rfl rfl) ?_)
      refine wnil ?_
      refine thenN ?_
      exact ⟨(i + 1), ⟨_, _, _, act_sets (l := [(0, .func (.yield l) #[] #[]), (5, .slice pL nL cL), (6, .int .i64 (((nL : Nat) : Int))), (7, .int .i64 (((i + 1 : Nat) : Int)))]) ⟨rfl, rfl, rfl, rfl, trivial⟩, Sep.pickT [.blk gb [.slice pL nL cL] 23, .row pL nL cL L] [.blk gb [.slice pL nL cL] 23, .row pL nL cL L] hS [0, 1] (by decide) rfl, by omega, by rw [hpre2, hx00, obs_zero]; rfl, hI⟩, by omega⟩
    ·
      refine wl rfl (obin (u := .int .u32 (((x : Nat) : Int))) (v := .int .u32 0) (z := .bool true) rfl rfl (ev (v := .int .u32 (((x : Nat) : Int))) rfl rfl) (evc (v := .int .u32 0)) (bin_neq ((by simpa [bne] using hx00))) ?_)
      refine wnil ?_
      refine thenN ?_
      refine wT (ev (v := .bool true) rfl rfl) ?_
      refine wskip ?_
      refine thenN ?_
      refine wseq ?_
      refine wblock ?_
      refine wseq ?_
      refine cw_of_cr (m := 0) (rreg ?_)
      refine rl rfl rfl (omove (v := .func (.yield l) #[] #[]) rfl rfl (ev (v := .func (.yield l) #[] #[]) rfl rfl) ?_)
      refine rl rfl rfl (omove (v := .int .i64 (((i : Nat) : Int))) rfl rfl (ev (v := .int .i64 (((i : Nat) : Int))) rfl rfl) ?_)
      obtain ⟨k, m, hxk⟩ := odd_part x (by omega)
      obtain ⟨hk32, hx0, _⟩ := tz_facts hxk hx
      have hob := obs_step hk32 hxk
      have hap := and_pred hxk
      have hpx : pre2 ++ [32 * i + k] <+: onesFrom 0 L := ⟨(obs (x - 2 ^ k)).map (32 * i + ·) ++ onesFrom (i + 1) (L.drop (i + 1)), by rw [hpre2, hob]; simp⟩
      have hkx : 2 ^ k ≤ x := by rw [hxk]; exact Nat.le_mul_of_pos_right _ (by omega)
      have hkp := Nat.two_pow_pos k
      refine rl rfl rfl (obin (u := .int .i64 32) (v := .int .i64 (((i : Nat) : Int))) (z := .int .i64 (((32 * i : Nat) : Int))) rfl rfl (evc (v := .int .i64 32)) (ev (v := .int .i64 (((i : Nat) : Int))) rfl rfl) (bin_mul ((by rw [wrap_i64 (by omega) (by omega)]; omega))) ?_)
      refine rl rfl rfl (omove (v := .int .u32 (((x : Nat) : Int))) rfl rfl (ev (v := .int .u32 (((x : Nat) : Int))) rfl rfl) ?_)
      refine rl rfl rfl (ocall rfl rfl Tryd.call24 rfl (wtz (fun j v hj => tab_keep (w0 := w0) hS (ht j v hj)) hxk hx) (args1 (ev rfl rfl)) ?_)
      rintro _ w3 ⟨_, _, rfl, ⟨rfl, rfl⟩, hN⟩
      refine ⟨_, rfl, ?_⟩
      replace hS := hS.news hN; clear hN
      refine rl rfl rfl (obin (u := .int .i64 (((32 * i : Nat) : Int))) (v := .int .i64 (((k : Nat) : Int))) (z := .int .i64 (((32 * i + k : Nat) : Int))) rfl rfl (ev (v := .int .i64 (((32 * i : Nat) : Int))) rfl rfl) (ev (v := .int .i64 (((k : Nat) : Int))) rfl rfl) (bin_add ((by rw [wrap_i64 (by omega) (by omega)]; omega))) ?_)
      refine ryield rfl rfl rfl rfl (ev (v := .func (.yield l) #[] #[]) rfl rfl) (args1 (ev (v := .int .i64 (((32 * i + k : Nat) : Int))) rfl rfl)) (hY 0 _ _ _ [] [.blk gb [.slice pL nL cL] 23, .row pL nL cL L] Rc _ (hpx) (hI) (⟨rfl, rfl⟩) hS) ?_
      intro e5 w4 hye5
      by_cases he5 : e5 = .returned (.bool true)
      ·
        obtain ⟨rfl, Rc, hI, hS⟩ := hye5.resolve_right (fun h => by have h1 := h.1; rw [he5] at h1; cases h1)
        refine ⟨_, rfl, ?_⟩
        refine rl rfl rfl (onot (b := true) rfl rfl (ev (v := .bool true) rfl rfl) ?_)
        refine rnil ?_
        refine thenN ?_
        refine wF (ev (v := .bool false) rfl rfl) ?_
        refine wskip ?_
        refine blkN ?_
        refine thenN ?_
        refine wreg ?_
        refine wl rfl (omove (v := .int .u32 (((x : Nat) : Int))) rfl rfl (ev (v := .int .u32 (((x : Nat) : Int))) rfl rfl) ?_)
        refine wl rfl (omove (v := .int .u32 (((x : Nat) : Int))) rfl rfl (ev (v := .int .u32 (((x : Nat) : Int))) rfl rfl) ?_)
        refine wl rfl (obin (u := .int .u32 (((x : Nat) : Int))) (v := .int .u32 1) (z := .int .u32 (((x - 1 : Nat) : Int))) rfl rfl (ev (v := .int .u32 (((x : Nat) : Int))) rfl rfl) (evc (v := .int .u32 1)) (bin_sub ((by rw [wrap_u32 (by omega) (by omega)]; omega))) ?_)
        refine wl rfl (obin (u := .int .u32 (((x : Nat) : Int))) (v := .int .u32 (((x - 1 : Nat) : Int))) (z := .int .u32 (((x - 2 ^ k : Nat) : Int))) rfl rfl (ev (v := .int .u32 (((x : Nat) : Int))) rfl rfl) (ev (v := .int .u32 (((x - 1 : Nat) : Int))) rfl rfl) (bin_and32 hx (by omega) hap) ?_)
        refine wl rfl (oassign (v := .int .u32 (((x - 2 ^ k : Nat) : Int))) rfl rfl (ev (v := .int .u32 (((x - 2 ^ k : Nat) : Int))) rfl rfl) ?_)
        refine wnil ?_
        refine thenN ?_
        exact ⟨(x - 2 ^ k), ⟨_, _, _, act_sets (l := [(0, .func (.yield l) #[] #[]), (3, .int .i64 (((i : Nat) : Int))), (4, .int .u32 (((x - 2 ^ k : Nat) : Int))), (5, .slice pL nL cL), (6, .int .i64 (((nL : Nat) : Int))), (7, .int .i64 (((i : Nat) : Int))), (8, .bool true), (9, .int .i64 (((i : Nat) : Int))), (10, .pointer (some ⟨gx, (ox + i), none⟩)), (11, .int .u32 (((nd L i : Nat) : Int)))]) ⟨rfl, rfl, rfl, rfl, rfl, rfl, rfl, rfl, rfl, rfl, trivial⟩, Sep.pickT [.blk gb [.slice pL nL cL] 23, .row pL nL cL L] [.blk gb [.slice pL nL cL] 23, .row pL nL cL L] hS [0, 1] (by decide) rfl, by omega, by rw [hpre2, hob]; simp, hI⟩, by omega⟩
      ·
        obtain ⟨rfl, Rc, hI, hS⟩ := hye5.resolve_left (fun h => he5 h.1)
        refine ⟨_, rfl, ?_⟩
        refine rl rfl rfl (onot (b := false) rfl rfl (ev (v := .bool false) rfl rfl) ?_)
        refine rnil ?_
        refine thenN ?_
        refine wT (ev (v := .bool true) rfl rfl) ?_
        refine wleave ?_
        refine blkR ?_
        refine thenR ?_
        refine thenR ?_
        refine blkR ?_
        refine blkR ?_
        refine thenR ?_
        refine thenR ?_
        refine blkR ?_
        refine wret0 Tryd.results25 ?_
        exact ⟨⟨_, rfl⟩, .inr ⟨_, Rc, hpx, hI, Sep.behind [.blk gb [.slice pL nL cL] 23, .row pL nL cL L] hS⟩⟩
  ·
    refine wl rfl (obin (u := .int .i64 (((i : Nat) : Int))) (v := .int .i64 (((nL : Nat) : Int))) (z := .bool false) rfl rfl (ev (v := .int .i64 (((i : Nat) : Int))) rfl rfl) (ev (v := .int .i64 (((nL : Nat) : Int))) rfl rfl) (bin_lss (decide_eq_false (by omega))) ?_)
    refine wnil ?_
    refine thenN ?_
    refine wseq ?_
    refine wF (ev (v := .bool false) rfl rfl) ?_
    refine wexit ?_
    refine thenE ?_
    refine thenE ?_
    refine blkE ?_
    refine wret0n Tryd.results25 ?_
    exact ⟨⟨_, rfl⟩, .inl ⟨Rc, by rw [show onesFrom 0 L = pre by rw [hpre, onesFrom_end (by omega), List.append_nil]]; exact hI, Sep.behind [.blk gb [.slice pL nL cL] 23, .row pL nL cL L] hS⟩⟩

/-- What Bits tells: the iterator's function, its box. -/
def BFt (L : List Nat) : Tell := fun v r => ∃ g p n c, v = .func (.func 25) #[] #[.pointer (some ⟨g, 0, none⟩)] ∧ r = [.blk g [.slice p n c] 23, .row p n c L]
theorem Sep.newK {R S : List Res} {w w' : World} (h : Sep w R w') (ks : List Nat) (hn : ks.Nodup) (he : ks.map (fun k => R[k]?) = S.map some) (ha : S.all (fun r => !r.arg) = true) : New w S w' := by
  have h2 := h.pick ks hn he
  exact ⟨h2.below, h2.holds, fun r hr g hg => h2.low r hr (by have := List.all_eq_true.1 ha r hr; simpa using this) g hg, h2.apart⟩
theorem omakeFunc1 {P : Program} {o : Oper} {n : Nat} {f : Nat → Value} {w : World} {K : Act → World → Prop} {Q : Exit → Act → World → Prop} {d : Nat} {F : FuncId} {xs : Array Operand} {cs : Array Value} (hop : o.op = .makeFunc (.func F) #[] xs) (ho : o.dst = some d) (hx : xs.map (act n f).eval = cs) (hK : K (act n (upd f d (.func (.func F) #[] cs))) w) : OW P o (act n f) w K Q :=
  oval ho (by simp [execOp, hop, hx, Instr.makeFunc]) rfl hK
set_option maxRecDepth 100000 in
set_option maxHeartbeats 16000000 in
theorem wnbits {p : Option Addr} {n c : Nat} {xs : List Nat} {w : World} (hx : Sl w p n c xs) (hn : n ≤ 17592186044416) :
    Calls Tryd.prog 17 #[.slice p n c] w (Ret (BFt (lim (val xs))) w) := by
  have hS := Sep.init w
  refine went Tryd.func17 rfl (n := 6) rfl rfl ?_
  refine wseq ?_
  refine wreg ?_
  refine wl rfl (obox [.slice p n c] hS rfl rfl (ev (v := .slice p n c) rfl rfl) rfl ?_)
  clear hS; intro g1 w2 hS
  refine wl rfl (oassign (v := .nilFunc) rfl rfl (evc (v := .nilFunc)) ?_)
  refine wnil ?_
  refine thenN ?_
  refine wseq ?_
  refine wreg ?_
  refine wl rfl (oload1 (v := .slice p n c) oneN hS 0 rfl rfl (ev rfl rfl) rfl rfl ?_)
  refine wl rfl (ocall rfl rfl Tryd.call20 rfl ((own_any (hx.below hS.below (Nat.le_refl _)) hn).mono RetN.u) (args1 (ev rfl rfl)) ?_)
  rintro _ w3 ⟨_, _, rfl, ⟨po, no, co, rfl, rfl⟩, hN⟩
  refine ⟨_, rfl, ?_⟩
  replace hS := hS.news hN; clear hN
  refine wl rfl (ostore [.slice po no co] [.slice po no co] Tryd.sizeOf23 hS 1 rfl rfl (ev rfl rfl) (ev (v := .slice po no co) rfl rfl) rfl rfl rfl rfl rfl rfl ?_)
  clear hS; intro w4 hS
  refine wnil ?_
  refine thenN ?_
  refine wseq ?_
  refine wreg ?_
  refine wl rfl (omakeFunc1 (cs := #[.pointer (some ⟨g1, 0, none⟩)]) rfl rfl (args1 (ev rfl rfl)) ?_)
  refine wl rfl (oassign (v := .func (.func 25) #[] #[.pointer (some ⟨g1, 0, none⟩)]) rfl rfl (ev (v := .func (.func 25) #[] #[.pointer (some ⟨g1, 0, none⟩)]) rfl rfl) ?_)
  refine wnil ?_
  refine thenN ?_
  refine wleave ?_
  refine wret1 Tryd.results17 (tellT (v := .func (.func 25) #[] #[.pointer (some ⟨g1, 0, none⟩)]) rfl rfl) ?_
  exact ⟨_, _, rfl, ⟨_, _, _, _, rfl, rfl⟩, hS.newK [1, 0] (by decide) rfl rfl⟩

end Go.Proofs.YtgemncfpehmdeaaDoor
