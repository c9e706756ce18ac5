
/-
  The walk of similelaw01.NatForms.
-/
import Derived.Test.YtgemncfpehmdeaaDoorTz6
import Derived.Test.YtgemncfpehmdeaaDoorBC
import Derived.Test.YtgemncfpehmdeaaDoorLives
import Derived.Test.YtgemncfpehmdeaaDoorWA
import Derived.Test.YtgemncfpehmdeaaDoorBF
set_option linter.unusedVariables false
set_option linter.unusedSimpArgs false
namespace Go.Proofs.YtgemncfpehmdeaaDoor
open Go.RowKit

theorem shl_u64 {a : Nat} (h : a < 4294967296) : IntKind.u64.wrap (((a : Nat) : Int) * 2 ^ (min (32 : Int).toNat IntKind.u64.bits)) = ((a * 4294967296 : Nat) : Int) := by
  rw [show min (32 : Int).toNat IntKind.u64.bits = 32 from rfl]
  exact (congrArg IntKind.u64.wrap (by omega)).trans (wrap_u64 (by omega) (by omega))
theorem top_down {N k : Nat} : N / 4294967296 ^ k = N / 4294967296 ^ (k + 1) * 4294967296 + nd (lim N) k := by
  rw [nd_lim, Nat.pow_succ, ← Nat.div_div_eq_div_mul]
  omega
theorem top_small {N k : Nat} (h : ll N ≤ k + 1) : N / 4294967296 ^ k < 4294967296 := by
  rw [Nat.div_lt_iff_lt_mul (pos_pow k), Nat.mul_comm, ← Nat.pow_succ]
  exact Nat.lt_of_lt_of_le (lt_ll N) (pow_le h)
theorem top_out {N k : Nat} (h : ll N ≤ k) : N / 4294967296 ^ k = 0 := Nat.div_eq_of_lt (Nat.lt_of_lt_of_le (lt_ll N) (pow_le h))
def NFI (g17 g18 : Nat) (FIX : List Res) (pre : List Nat) (Rc : List Res) : Prop := pre.length ≤ 3000 ∧ Rc = .blk g17 [.int .i64 (lastI pre)] 3 :: .blk g18 [.int .i64 ((pre.length : Nat) : Int)] 3 :: FIX
def NFX (g17 g18 : Nat) (FIX : List Res) (c : Code) (pre : List Nat) (Rc : List Res) : Prop := c = .exit 2 ∧ pre.length = 3001 ∧ Rc = .blk g17 [.int .i64 (lastI pre)] 3 :: .blk g18 [.int .i64 ((pre.length : Nat) : Int)] 3 :: FIX
def NFA (g3 g6 g17 g18 : Nat) (FIX : List Res) (pre : List Nat) (x : Nat) (f' : Nat → Value) (Rc : List Res) : Prop :=
  ∃ fa, f' = upd (upd fa 110 (.int .i64 ((x : Nat) : Int))) 20 (.int .i64 ((x : Nat) : Int)) ∧ fa 3 = .pointer (some ⟨g3, 0, none⟩) ∧ fa 6 = .pointer (some ⟨g6, 0, none⟩) ∧ fa 17 = .pointer (some ⟨g17, 0, none⟩) ∧ fa 18 = .pointer (some ⟨g18, 0, none⟩) ∧ NFI g17 g18 FIX pre Rc
theorem Sep.mid2 {w0 w : World} {Rf FIX : List Res} {a b : Res} (h : Sep w0 (Rf ++ (a :: b :: FIX)) w) : Sep w0 (a :: b :: (Rf ++ FIX)) w := by
  have e : Rf ++ (a :: b :: FIX) = Rf ++ ([a, b] ++ FIX) := rfl
  rw [e] at h
  exact Sep.front1 h
theorem Sep.mid2b {w0 w : World} {Rf FIX : List Res} {a b : Res} (h : Sep w0 (a :: b :: (Rf ++ FIX)) w) : Sep w0 (Rf ++ (a :: b :: FIX)) w := by
  have h1 : Sep w0 ([a, b] ++ (Rf ++ FIX)) w := h
  exact Sep.front1 h1
theorem ones_fin {xs : List Nat} {i x acc : Nat} (h : i < xs.length) (hacc : acc + (obs x).length = ones (xs.take (i + 1))) (hx : x = 0) : acc = ones (xs.take (i + 1)) := by
  rw [hx, obs_zero] at hacc; exact hacc

set_option maxRecDepth 100000 in
set_option maxHeartbeats 16000000 in
theorem forms_rest {c0_ c1_ c2_ c3_ c4_ c5_ c6_ c7_ c8_ c9_ c10_ c11_ c12_ c13_ c : Code} (hc : (Tryd.f3).body = some ((.seq c0_ (.seq c1_ (.seq c2_ (.seq c3_ (.seq c4_ (.seq c5_ (.seq c6_ (.seq c7_ (.seq c8_ (.seq c9_ (.seq c10_ (.seq c11_ (.seq c12_ (.seq c13_ c)))))))))))))))) {fb : Nat → Value} {xs : List Nat} {p0 : Option Addr} {n0 c0 nx ny nz cx cy cz g3 g6 g17 g18 gW D : Nat} {px py pz : Option Addr} {last : Int} {count : Nat} (hf : AllAt fb [(3, .pointer (some ⟨g3, 0, none⟩)), (6, .pointer (some ⟨g6, 0, none⟩)), (17, .pointer (some ⟨g17, 0, none⟩)), (18, .pointer (some ⟨g18, 0, none⟩)), (9, .slice px nx cx), (10, .slice py ny cy), (11, .slice pz nz cz), (7, .slice (some ⟨gW, 0, none⟩) ((n0 + 2)) ((n0 + 2)))]) {w0 w : World} (hx : Sl w0 p0 n0 c0 xs) (hn : n0 ≤ 1048576) (hS : Sep w0 [.obj D (.deferred (some [])), .blk g17 [.int .i64 last] 3, .blk g18 [.int .i64 (((count : Nat) : Int))] 3, .rowm px nx cx (lim (val xs)), .row py ny cy (lim (val xs)), .row pz nz cz (lim (val xs)), .row (some ⟨gW, 0, none⟩) (n0 + 2) (n0 + 2) (whole xs), .blk g3 [.slice p0 n0 c0] 23, .blk g6 [.bool false] 4] w) (hcnt : count = ones xs ∨ count = 3001) :
    CW Tryd.prog c (postM Tryd.prog Tryd.f3 (Ret (Is (.bool true)) w0)) (marked D (act 170 fb)) w := by
  obtain rfl := (Code.seq.inj (Code.seq.inj (Code.seq.inj (Code.seq.inj (Code.seq.inj (Code.seq.inj (Code.seq.inj (Code.seq.inj (Code.seq.inj (Code.seq.inj (Code.seq.inj (Code.seq.inj (Code.seq.inj (Code.seq.inj (Option.some.inj hc)).2).2).2).2).2).2).2).2).2).2).2).2).2).2
  clear hc
  rw [mact_sets hf]
  have hlen : xs.length = n0 := hx.len
  have hll : ll (val xs) ≤ n0 := by rw [← tl_ll hx.lims, ← hlen]; exact tl_le _ _
  have hnx : nx ≤ n0 := by rw [(hS.slm 3 rfl).lln]; exact hll
  refine wseq ?_
  refine mreg ?_
  refine ml rfl (oassign (v := .int .i64 0) rfl rfl (evc (v := .int .i64 0)) ?_)
  refine mnil ?_
  refine thenN ?_
  refine wseq ?_
  refine wseq ?_
  refine mreg ?_
  refine ml rfl (oload1 (v := .slice p0 n0 c0) oneN hS 7 rfl rfl (ev rfl rfl) rfl rfl ?_)
  refine ml rfl (olen rfl rfl rfl Tryd.runUnderlying23 (p := p0) (k := n0) (m := c0) (ev (v := .slice p0 n0 c0) rfl rfl) ?_)
  refine ml rfl (omove (v := .int .i64 0) rfl rfl (evc (v := .int .i64 0)) ?_)
  refine mnil ?_
  refine thenN ?_
  refine wblock ?_
  refine wloop (σ := Nat) (fun i a w' => ∃ (fb : Nat → Value), a = marked D (act 170 (sets fb [(3, .pointer (some ⟨g3, 0, none⟩)), (6, .pointer (some ⟨g6, 0, none⟩)), (7, .slice (some ⟨gW, 0, none⟩) ((n0 + 2)) ((n0 + 2))), (9, .slice px nx cx), (10, .slice py ny cy), (11, .slice pz nz cz), (18, .pointer (some ⟨g18, 0, none⟩)), (21, .int .i64 (((ones (xs.take i) : Nat) : Int))), (125, .slice p0 n0 c0), (126, .int .i64 (((n0 : Nat) : Int))), (127, .int .i64 (((i : Nat) : Int)))])) ∧ Sep w0 [.obj D (.deferred (some [])), .blk g17 [.int .i64 last] 3, .blk g18 [.int .i64 (((count : Nat) : Int))] 3, .rowm px nx cx (lim (val xs)), .row py ny cy (lim (val xs)), .row pz nz cz (lim (val xs)), .row (some ⟨gW, 0, none⟩) (n0 + 2) (n0 + 2) (whole xs), .blk g3 [.slice p0 n0 c0] 23, .blk g6 [.bool false] 4] w' ∧ (i ≤ n0)) (fun i => n0 - i) (0) ⟨_, mact_sets (l := [(3, .pointer (some ⟨g3, 0, none⟩)), (6, .pointer (some ⟨g6, 0, none⟩)), (7, .slice (some ⟨gW, 0, none⟩) ((n0 + 2)) ((n0 + 2))), (9, .slice px nx cx), (10, .slice py ny cy), (11, .slice pz nz cz), (18, .pointer (some ⟨g18, 0, none⟩)), (21, .int .i64 0), (125, .slice p0 n0 c0), (126, .int .i64 (((n0 : Nat) : Int))), (127, .int .i64 0)]) ⟨rfl, rfl, rfl, rfl, rfl, rfl, rfl, rfl, rfl, rfl, rfl, trivial⟩, hS, Nat.zero_le _⟩ ?_
  clear hS; rintro i _ w1 ⟨fb, rfl, hS, hi⟩
  refine wseq ?_
  refine mreg ?_
  by_cases hlt : i < n0
  ·
    refine ml rfl (obin (u := .int .i64 (((i : Nat) : Int))) (v := .int .i64 (((n0 : Nat) : Int))) (z := .bool true) rfl rfl (ev (v := .int .i64 (((i : Nat) : Int))) rfl rfl) (ev (v := .int .i64 (((n0 : Nat) : Int))) rfl rfl) (bin_lss (decide_eq_true (by omega))) ?_)
    refine mnil ?_
    refine thenN ?_
    refine wseq ?_
    refine mwT (ev (v := .bool true) rfl rfl) ?_
    refine wskip ?_
    refine thenN ?_
    refine wseq ?_
    refine wblock ?_
    refine wseq ?_
    refine mreg ?_
    obtain ⟨gx, ox, hpx0, hcx⟩ := (hx.below hS.below (Nat.le_refl _)).cell i hlt
    refine ml rfl (oindex (p := p0) (g := gx) (off := ox) (m := n0) (k := i) (j := (ox + i)) rfl rfl Tryd.runUnderlying23 Tryd.sizeOf31 (ev (v := .slice p0 n0 c0) rfl rfl) (hpx0) (ev (v := .int .i64 (((i : Nat) : Int))) rfl rfl) (hlt) (by omega) ?_)
    refine ml rfl (oloadc (v := .int .u32 (((nd xs i : Nat) : Int))) one32 rfl rfl (ev (v := .pointer (some ⟨gx, (ox + i), none⟩)) rfl rfl) (hcx) ?_)
    refine ml rfl (oassign (v := .int .u32 (((nd xs i : Nat) : Int))) rfl rfl (ev (v := .int .u32 (((nd xs i : Nat) : Int))) rfl rfl) ?_)
    refine mnil ?_
    refine thenN ?_
    refine wblock ?_
    have hol := ones_le (xs.take (i + 1))
    have hol2 : (xs.take (i + 1)).length ≤ n0 := by rw [List.length_take]; omega
    refine wloop (σ := Nat) (fun x a w' => ∃ (fb : Nat → Value) (acc : Nat), a = marked D (act 170 (sets fb [(3, .pointer (some ⟨g3, 0, none⟩)), (6, .pointer (some ⟨g6, 0, none⟩)), (7, .slice (some ⟨gW, 0, none⟩) ((n0 + 2)) ((n0 + 2))), (9, .slice px nx cx), (10, .slice py ny cy), (11, .slice pz nz cz), (18, .pointer (some ⟨g18, 0, none⟩)), (21, .int .i64 (((acc : Nat) : Int))), (23, .int .u32 (((x : Nat) : Int))), (125, .slice p0 n0 c0), (126, .int .i64 (((n0 : Nat) : Int))), (127, .int .i64 (((i : Nat) : Int))), (128, .bool true), (129, .pointer (some ⟨gx, (ox + i), none⟩)), (130, .int .u32 (((nd xs i : Nat) : Int)))])) ∧ Sep w0 [.obj D (.deferred (some [])), .blk g17 [.int .i64 last] 3, .blk g18 [.int .i64 (((count : Nat) : Int))] 3, .rowm px nx cx (lim (val xs)), .row py ny cy (lim (val xs)), .row pz nz cz (lim (val xs)), .row (some ⟨gW, 0, none⟩) (n0 + 2) (n0 + 2) (whole xs), .blk g3 [.slice p0 n0 c0] 23, .blk g6 [.bool false] 4] w' ∧ (x < 4294967296) ∧ (acc + (obs x).length = ones (xs.take (i + 1)))) (fun x => x) ((nd xs i)) ⟨_, _, mact_sets (l := [(3, .pointer (some ⟨g3, 0, none⟩)), (6, .pointer (some ⟨g6, 0, none⟩)), (7, .slice (some ⟨gW, 0, none⟩) ((n0 + 2)) ((n0 + 2))), (9, .slice px nx cx), (10, .slice py ny cy), (11, .slice pz nz cz), (18, .pointer (some ⟨g18, 0, none⟩)), (21, .int .i64 (((ones (xs.take i) : Nat) : Int))), (23, .int .u32 (((nd xs i : Nat) : Int))), (125, .slice p0 n0 c0), (126, .int .i64 (((n0 : Nat) : Int))), (127, .int .i64 (((i : Nat) : Int))), (128, .bool true), (129, .pointer (some ⟨gx, (ox + i), none⟩)), (130, .int .u32 (((nd xs i : Nat) : Int)))]) ⟨rfl, rfl, rfl, rfl, rfl, rfl, rfl, rfl, rfl, rfl, rfl, rfl, rfl, rfl, rfl, trivial⟩, hS, hx.lim1 i, (ones_take (by omega)).symm⟩ ?_
    clear hS; rintro x _ w2 ⟨fb, acc, rfl, hS, hx32, hacc⟩
    refine wseq ?_
    refine wseq ?_
    refine mreg ?_
    refine ml rfl (omove (v := .int .u32 (((x : Nat) : Int))) rfl rfl (ev (v := .int .u32 (((x : Nat) : Int))) rfl rfl) ?_)
    by_cases hx0 : x = 0
    ·
      refine ml rfl (obin (u := .int .u32 (((x : Nat) : Int))) (v := .int .u32 0) (z := .bool false) rfl rfl (ev (v := .int .u32 (((x : Nat) : Int))) rfl rfl) (evc (v := .int .u32 0)) (bin_gtr (decide_eq_false (by omega))) ?_)
      refine mnil ?_
      refine thenN ?_
      refine mwF (ev (v := .bool false) rfl rfl) ?_
      refine wexit ?_
      refine thenE ?_
      refine thenE ?_
      refine blkE ?_
      refine blkN ?_
      refine thenN ?_
      refine mreg ?_
      obtain rfl := ones_fin (by omega) hacc hx0
      refine ml rfl (obin (u := .int .i64 (((i : Nat) : Int))) (v := .int .i64 1) (z := .int .i64 (((i + 1 : Nat) : Int))) rfl rfl (ev (v := .int .i64 (((i : Nat) : Int))) rfl rfl) (evc (v := .int .i64 1)) (bin_add (wrap_i64 (by omega) (by omega))) ?_)
      refine ml rfl (omove (v := .int .i64 (((i + 1 : Nat) : Int))) rfl rfl (ev (v := .int .i64 (((i + 1 : Nat) : Int))) rfl rfl) ?_)
      refine mnil ?_
      refine thenN ?_
      exact ⟨(i + 1), ⟨_, mact_sets (l := [(3, .pointer (some ⟨g3, 0, none⟩)), (6, .pointer (some ⟨g6, 0, none⟩)), (7, .slice (some ⟨gW, 0, none⟩) ((n0 + 2)) ((n0 + 2))), (9, .slice px nx cx), (10, .slice py ny cy), (11, .slice pz nz cz), (18, .pointer (some ⟨g18, 0, none⟩)), (21, .int .i64 (((ones (xs.take (i + 1)) : Nat) : Int))), (125, .slice p0 n0 c0), (126, .int .i64 (((n0 : Nat) : Int))), (127, .int .i64 (((i + 1 : Nat) : Int)))]) ⟨rfl, rfl, rfl, rfl, rfl, rfl, rfl, rfl, rfl, rfl, rfl, trivial⟩, hS.pick [0, 1, 2, 3, 4, 5, 6, 7, 8] (by decide) rfl, by omega⟩, by omega⟩
    ·
      refine ml rfl (obin (u := .int .u32 (((x : Nat) : Int))) (v := .int .u32 0) (z := .bool true) rfl rfl (ev (v := .int .u32 (((x : Nat) : Int))) rfl rfl) (evc (v := .int .u32 0)) (bin_gtr (decide_eq_true (by omega))) ?_)
      refine mnil ?_
      refine thenN ?_
      refine mwT (ev (v := .bool true) rfl rfl) ?_
      refine wskip ?_
      refine thenN ?_
      refine wseq ?_
      refine wblock ?_
      refine mreg ?_
      refine ml rfl (omove (v := .int .i64 (((acc : Nat) : Int))) rfl rfl (ev (v := .int .i64 (((acc : Nat) : Int))) rfl rfl) ?_)
      refine ml rfl (omove (v := .int .u32 (((x : Nat) : Int))) rfl rfl (ev (v := .int .u32 (((x : Nat) : Int))) rfl rfl) ?_)
      have hoh := obs_half hx32
      refine ml rfl (obin (u := .int .u32 (((x : Nat) : Int))) (v := .int .u32 2) (z := .int .u32 (((x % 2 : Nat) : Int))) rfl rfl (ev (v := .int .u32 (((x : Nat) : Int))) rfl rfl) (evc (v := .int .u32 2)) (bin_rem (by decide) (show ((x : Nat) : Int).tmod 2 = ((x % 2 : Nat) : Int) from rfl)) ?_)
      refine ml rfl (oconvert (u := .int .u32 (((x % 2 : Nat) : Int))) (v := .int .i64 (((x % 2 : Nat) : Int))) rfl rfl (ev (v := .int .u32 (((x % 2 : Nat) : Int))) rfl rfl) (convert_int Tryd.runUnderlying31 Tryd.runUnderlying3 (wrap_i64 (by omega) (by omega))) ?_)
      refine ml rfl (obin (u := .int .i64 (((acc : Nat) : Int))) (v := .int .i64 (((x % 2 : Nat) : Int))) (z := .int .i64 (((acc + x % 2 : Nat) : Int))) rfl rfl (ev (v := .int .i64 (((acc : Nat) : Int))) rfl rfl) (ev (v := .int .i64 (((x % 2 : Nat) : Int))) rfl rfl) (bin_add (wrap_i64 (by omega) (by omega))) ?_)
      refine ml rfl (oassign (v := .int .i64 (((acc + x % 2 : Nat) : Int))) rfl rfl (ev (v := .int .i64 (((acc + x % 2 : Nat) : Int))) rfl rfl) ?_)
      refine mnil ?_
      refine blkN ?_
      refine thenN ?_
      refine mreg ?_
      refine ml rfl (omove (v := .int .u32 (((x : Nat) : Int))) rfl rfl (ev (v := .int .u32 (((x : Nat) : Int))) rfl rfl) ?_)
      refine ml rfl (obin (u := .int .u32 (((x : Nat) : Int))) (v := .int .u32 2) (z := .int .u32 (((x / 2 : Nat) : Int))) rfl rfl (ev (v := .int .u32 (((x : Nat) : Int))) rfl rfl) (evc (v := .int .u32 2)) (bin_quo (by decide) (by rw [show ((x : Nat) : Int).tdiv 2 = ((x / 2 : Nat) : Int) from rfl]; exact wrap_u32 (by omega) (by omega))) ?_)
      refine ml rfl (oassign (v := .int .u32 (((x / 2 : Nat) : Int))) rfl rfl (ev (v := .int .u32 (((x / 2 : Nat) : Int))) rfl rfl) ?_)
      refine mnil ?_
      refine thenN ?_
      exact ⟨(x / 2), ⟨_, _, mact_sets (l := [(3, .pointer (some ⟨g3, 0, none⟩)), (6, .pointer (some ⟨g6, 0, none⟩)), (7, .slice (some ⟨gW, 0, none⟩) ((n0 + 2)) ((n0 + 2))), (9, .slice px nx cx), (10, .slice py ny cy), (11, .slice pz nz cz), (18, .pointer (some ⟨g18, 0, none⟩)), (21, .int .i64 (((acc + x % 2 : Nat) : Int))), (23, .int .u32 (((x / 2 : Nat) : Int))), (125, .slice p0 n0 c0), (126, .int .i64 (((n0 : Nat) : Int))), (127, .int .i64 (((i : Nat) : Int))), (128, .bool true), (129, .pointer (some ⟨gx, (ox + i), none⟩)), (130, .int .u32 (((nd xs i : Nat) : Int)))]) ⟨rfl, rfl, rfl, rfl, rfl, rfl, rfl, rfl, rfl, rfl, rfl, rfl, rfl, rfl, rfl, trivial⟩, hS.pick [0, 1, 2, 3, 4, 5, 6, 7, 8] (by decide) rfl, by omega, by omega⟩, by omega⟩
  ·
    refine ml rfl (obin (u := .int .i64 (((i : Nat) : Int))) (v := .int .i64 (((n0 : Nat) : Int))) (z := .bool false) rfl rfl (ev (v := .int .i64 (((i : Nat) : Int))) rfl rfl) (ev (v := .int .i64 (((n0 : Nat) : Int))) rfl rfl) (bin_lss (decide_eq_false (by omega))) ?_)
    refine mnil ?_
    refine thenN ?_
    refine wseq ?_
    refine mwF (ev (v := .bool false) rfl rfl) ?_
    refine wexit ?_
    refine thenE ?_
    refine thenE ?_
    refine blkE ?_
    refine thenN ?_
    refine wseq ?_
    refine wseq ?_
    refine mreg ?_
    refine ml rfl (omove (v := .slice px nx cx) rfl rfl (ev (v := .slice px nx cx) rfl rfl) ?_)
    refine ml rfl (olen rfl rfl rfl Tryd.runUnderlying23 (p := px) (k := nx) (m := cx) (ev (v := .slice px nx cx) rfl rfl) ?_)
    refine ml rfl (omove (v := .int .i64 0) rfl rfl (evc (v := .int .i64 0)) ?_)
    refine mnil ?_
    refine thenN ?_
    refine wblock ?_
    have hin : i = n0 := by omega
    refine wloop (σ := Nat) (fun k a w' => ∃ (fb : Nat → Value) (ls : List Nat), a = marked D (act 170 (sets fb [(3, .pointer (some ⟨g3, 0, none⟩)), (6, .pointer (some ⟨g6, 0, none⟩)), (7, .slice (some ⟨gW, 0, none⟩) ((n0 + 2)) ((n0 + 2))), (9, .slice px nx cx), (10, .slice py ny cy), (11, .slice pz nz cz), (18, .pointer (some ⟨g18, 0, none⟩)), (21, .int .i64 (((ones (xs.take i) : Nat) : Int))), (142, .int .i64 (((nx : Nat) : Int))), (143, .int .i64 (((k : Nat) : Int)))])) ∧ Sep w0 [.obj D (.deferred (some [])), .blk g17 [.int .i64 last] 3, .blk g18 [.int .i64 (((count : Nat) : Int))] 3, .rowm px nx cx ls, .row py ny cy (lim (val xs)), .row pz nz cz (lim (val xs)), .row (some ⟨gW, 0, none⟩) (n0 + 2) (n0 + 2) (whole xs), .blk g3 [.slice p0 n0 c0] 23, .blk g6 [.bool false] 4] w' ∧ (k ≤ nx)) (fun k => nx - k) (0) ⟨_, _, mact_sets (l := [(3, .pointer (some ⟨g3, 0, none⟩)), (6, .pointer (some ⟨g6, 0, none⟩)), (7, .slice (some ⟨gW, 0, none⟩) ((n0 + 2)) ((n0 + 2))), (9, .slice px nx cx), (10, .slice py ny cy), (11, .slice pz nz cz), (18, .pointer (some ⟨g18, 0, none⟩)), (21, .int .i64 (((ones (xs.take i) : Nat) : Int))), (142, .int .i64 (((nx : Nat) : Int))), (143, .int .i64 0)]) ⟨rfl, rfl, rfl, rfl, rfl, rfl, rfl, rfl, rfl, rfl, trivial⟩, hS, Nat.zero_le _⟩ ?_
    clear hS; rintro k _ w2 ⟨fb, ls, rfl, hS, hk⟩
    refine wseq ?_
    refine mreg ?_
    by_cases hlk : k < nx
    ·
      refine ml rfl (obin (u := .int .i64 (((k : Nat) : Int))) (v := .int .i64 (((nx : Nat) : Int))) (z := .bool true) rfl rfl (ev (v := .int .i64 (((k : Nat) : Int))) rfl rfl) (ev (v := .int .i64 (((nx : Nat) : Int))) rfl rfl) (bin_lss (decide_eq_true (by omega))) ?_)
      refine mnil ?_
      refine thenN ?_
      refine wseq ?_
      refine mwT (ev (v := .bool true) rfl rfl) ?_
      refine wskip ?_
      refine thenN ?_
      refine wseq ?_
      refine wblock ?_
      refine wseq ?_
      refine mreg ?_
      refine ml rfl (omove (v := .int .i64 (((k : Nat) : Int))) rfl rfl (ev (v := .int .i64 (((k : Nat) : Int))) rfl rfl) ?_)
      refine ml rfl (oassign (v := .int .i64 (((k : Nat) : Int))) rfl rfl (ev (v := .int .i64 (((k : Nat) : Int))) rfl rfl) ?_)
      refine mnil ?_
      refine thenN ?_
      refine mreg ?_
      refine ml rfl (omove (v := .slice px nx cx) rfl rfl (ev (v := .slice px nx cx) rfl rfl) ?_)
      refine ml rfl (omove (v := .int .i64 (((k : Nat) : Int))) rfl rfl (ev (v := .int .i64 (((k : Nat) : Int))) rfl rfl) ?_)
      obtain ⟨gr, hgr, _, _⟩ := (hS.rowmAt 3 rfl).pos (by omega)
      have hlx := (hS.slm 3 rfl).len
      refine ml rfl (oindex (p := px) (g := gr) (off := 0) (m := nx) (k := k) (j := k) rfl rfl Tryd.runUnderlying23 Tryd.sizeOf31 (ev (v := .slice px nx cx) rfl rfl) (hgr) (ev (v := .int .i64 (((k : Nat) : Int))) rfl rfl) (hlk) (by simp) ?_)
      refine ml rfl (ostoreRow (i := k) (u := 7) Tryd.sizeOf31 hS 3 rfl rfl (ev (v := .pointer (some ⟨gr, k, none⟩)) rfl rfl) (evc (v := .int .u32 ((7 : Nat) : Int))) rfl (hgr) ((by omega)) (by omega) ?_)
      clear hS; intro w3 hS
      refine mnil ?_
      refine blkN ?_
      refine thenN ?_
      refine mreg ?_
      refine ml rfl (obin (u := .int .i64 (((k : Nat) : Int))) (v := .int .i64 1) (z := .int .i64 (((k + 1 : Nat) : Int))) rfl rfl (ev (v := .int .i64 (((k : Nat) : Int))) rfl rfl) (evc (v := .int .i64 1)) (bin_add (wrap_i64 (by omega) (by omega))) ?_)
      refine ml rfl (omove (v := .int .i64 (((k + 1 : Nat) : Int))) rfl rfl (ev (v := .int .i64 (((k + 1 : Nat) : Int))) rfl rfl) ?_)
      refine mnil ?_
      refine thenN ?_
      exact ⟨(k + 1), ⟨_, _, mact_sets (l := [(3, .pointer (some ⟨g3, 0, none⟩)), (6, .pointer (some ⟨g6, 0, none⟩)), (7, .slice (some ⟨gW, 0, none⟩) ((n0 + 2)) ((n0 + 2))), (9, .slice px nx cx), (10, .slice py ny cy), (11, .slice pz nz cz), (18, .pointer (some ⟨g18, 0, none⟩)), (21, .int .i64 (((ones (xs.take i) : Nat) : Int))), (142, .int .i64 (((nx : Nat) : Int))), (143, .int .i64 (((k + 1 : Nat) : Int)))]) ⟨rfl, rfl, rfl, rfl, rfl, rfl, rfl, rfl, rfl, rfl, trivial⟩, hS.pick [0, 1, 2, 3, 4, 5, 6, 7, 8] (by decide) rfl, by omega⟩, by omega⟩
    ·
      refine ml rfl (obin (u := .int .i64 (((k : Nat) : Int))) (v := .int .i64 (((nx : Nat) : Int))) (z := .bool false) rfl rfl (ev (v := .int .i64 (((k : Nat) : Int))) rfl rfl) (ev (v := .int .i64 (((nx : Nat) : Int))) rfl rfl) (bin_lss (decide_eq_false (by omega))) ?_)
      refine mnil ?_
      refine thenN ?_
      refine wseq ?_
      refine mwF (ev (v := .bool false) rfl rfl) ?_
      refine wexit ?_
      refine thenE ?_
      refine thenE ?_
      refine blkE ?_
      refine thenN ?_
      refine wseq ?_
      refine mreg ?_
      refine ml rfl (oload1 (v := .int .i64 (((count : Nat) : Int))) oneI hS 2 rfl rfl (ev rfl rfl) rfl rfl ?_)
      refine ml rfl (omove (v := .int .i64 (((ones (xs.take i) : Nat) : Int))) rfl rfl (ev (v := .int .i64 (((ones (xs.take i) : Nat) : Int))) rfl rfl) ?_)
      by_cases hco : count = ones xs
      ·
        refine ml rfl (obin (u := .int .i64 (((count : Nat) : Int))) (v := .int .i64 (((ones (xs.take i) : Nat) : Int))) (z := .bool true) rfl rfl (ev (v := .int .i64 (((count : Nat) : Int))) rfl rfl) (ev (v := .int .i64 (((ones (xs.take i) : Nat) : Int))) rfl rfl) (bin_eql (eqT (by rw [hco, List.take_of_length_le (by omega)]))) ?_)
        refine ml rfl (omove (v := .bool true) rfl rfl (ev (v := .bool true) rfl rfl) ?_)
        refine mlOff (e := 153) (d := 154) (b' := true) rfl rfl rfl rfl rfl rfl ?_
        refine mlOff (e := 153) (d := 155) (b' := true) rfl rfl rfl rfl rfl rfl ?_
        refine ml rfl (opick (b := true) (v := .bool true) rfl rfl (ev (v := .bool true) rfl rfl) (evc (v := .bool true)) ?_)
        refine ml rfl (omove (v := .bool true) rfl rfl (ev (v := .bool true) rfl rfl) ?_)
        refine mlOn (e := 157) rfl rfl rfl rfl (omove (v := .slice py ny cy) rfl rfl (ev (v := .slice py ny cy) rfl rfl) ?_)
        refine mlOn (e := 157) rfl rfl rfl rfl (omove (v := .slice pz nz cz) rfl rfl (ev (v := .slice pz nz cz) rfl rfl) ?_)
        refine mlOn (e := 157) rfl rfl rfl rfl (ocall rfl rfl Tryd.call8 rfl ((same_yes (hS.sl 4 rfl) (hS.sl 5 rfl)).mono RetB.u) (args2 (ev rfl rfl) (ev rfl rfl)) ?_)
        rintro _ w3 ⟨_, _, rfl, ⟨rfl, rfl⟩, hN⟩
        refine ⟨_, rfl, ?_⟩
        replace hS := hS.news hN; clear hN
        refine ml rfl (opick (b := true) (v := .bool true) rfl rfl (ev (v := .bool true) rfl rfl) (ev (v := .bool true) rfl rfl) ?_)
        refine ml rfl (omove (v := .bool true) rfl rfl (ev (v := .bool true) rfl rfl) ?_)
        refine mlOn (e := 162) rfl rfl rfl rfl (omove (v := .slice (some ⟨gW, 0, none⟩) ((n0 + 2)) ((n0 + 2))) rfl rfl (ev (v := .slice (some ⟨gW, 0, none⟩) ((n0 + 2)) ((n0 + 2))) rfl rfl) ?_)
        refine mlOn (e := 162) rfl rfl rfl rfl (oload1 (v := .slice p0 n0 c0) oneN hS 7 rfl rfl (ev rfl rfl) rfl rfl ?_)
        refine mlOn (e := 162) rfl rfl rfl rfl (ocall rfl rfl Tryd.call18 rfl ((kept_any (hS.sl 6 rfl) (hx.below hS.below (Nat.le_refl _)) (by omega)).mono RetB.u) (args2 (ev rfl rfl) (ev rfl rfl)) ?_)
        rintro _ w4 ⟨_, _, rfl, ⟨rfl, rfl⟩, hN⟩
        refine ⟨_, rfl, ?_⟩
        replace hS := hS.news hN; clear hN
        refine ml rfl (opick (b := true) (v := .bool true) rfl rfl (ev (v := .bool true) rfl rfl) (ev (v := .bool true) rfl rfl) ?_)
        refine ml rfl (omove (v := .bool true) rfl rfl (ev (v := .bool true) rfl rfl) ?_)
        refine mlOn (e := 167) rfl rfl rfl rfl (ocall rfl rfl Tryd.call19 rfl ((lives_any).mono RetB.u) (args0 ) ?_)
        rintro _ w5 ⟨_, _, rfl, ⟨rfl, rfl⟩, hN⟩
        refine ⟨_, rfl, ?_⟩
        replace hS := hS.news hN; clear hN
        refine ml rfl (opick (b := true) (v := .bool true) rfl rfl (ev (v := .bool true) rfl rfl) (ev (v := .bool true) rfl rfl) ?_)
        refine ml rfl (ostore [.bool true] [.bool true] Tryd.sizeOf4 hS 8 rfl rfl (ev rfl rfl) (ev (v := .bool true) rfl rfl) rfl rfl rfl rfl rfl rfl ?_)
        clear hS; intro w6 hS
        refine mnil ?_
        refine thenN ?_
        refine wleave ?_
        refine mret1 Tryd.results3 hS (fun w9 hS => (tellC1 (v := .bool true) oneB hS 7 rfl rfl rfl)) (fun w9 hS => ?_)
        exact ⟨_, _, rfl, isI, New.nil hS.below⟩
      ·
        refine ml rfl (obin (u := .int .i64 (((count : Nat) : Int))) (v := .int .i64 (((ones (xs.take i) : Nat) : Int))) (z := .bool false) rfl rfl (ev (v := .int .i64 (((count : Nat) : Int))) rfl rfl) (ev (v := .int .i64 (((ones (xs.take i) : Nat) : Int))) rfl rfl) (bin_eql (eqF (fun e => hco (by rw [List.take_of_length_le (by omega)] at e; omega)))) ?_)
        refine ml rfl (omove (v := .bool false) rfl rfl (ev (v := .bool false) rfl rfl) ?_)
        refine mlOn (e := 153) rfl rfl rfl rfl (oload1 (v := .int .i64 (((count : Nat) : Int))) oneI hS 2 rfl rfl (ev rfl rfl) rfl rfl ?_)
        refine mlOn (e := 153) rfl rfl rfl rfl (obin (u := .int .i64 (((count : Nat) : Int))) (v := .int .i64 3001) (z := .bool true) rfl rfl (ev (v := .int .i64 (((count : Nat) : Int))) rfl rfl) (evc (v := .int .i64 3001)) (bin_eql (eqT (by have := hcnt.resolve_left hco; omega))) ?_)
        refine ml rfl (opick (b := false) (v := .bool true) rfl rfl (ev (v := .bool false) rfl rfl) (ev (v := .bool true) rfl rfl) ?_)
        refine ml rfl (omove (v := .bool true) rfl rfl (ev (v := .bool true) rfl rfl) ?_)
        refine mlOn (e := 157) rfl rfl rfl rfl (omove (v := .slice py ny cy) rfl rfl (ev (v := .slice py ny cy) rfl rfl) ?_)
        refine mlOn (e := 157) rfl rfl rfl rfl (omove (v := .slice pz nz cz) rfl rfl (ev (v := .slice pz nz cz) rfl rfl) ?_)
        refine mlOn (e := 157) rfl rfl rfl rfl (ocall rfl rfl Tryd.call8 rfl ((same_yes (hS.sl 4 rfl) (hS.sl 5 rfl)).mono RetB.u) (args2 (ev rfl rfl) (ev rfl rfl)) ?_)
        rintro _ w3 ⟨_, _, rfl, ⟨rfl, rfl⟩, hN⟩
        refine ⟨_, rfl, ?_⟩
        replace hS := hS.news hN; clear hN
        refine ml rfl (opick (b := true) (v := .bool true) rfl rfl (ev (v := .bool true) rfl rfl) (ev (v := .bool true) rfl rfl) ?_)
        refine ml rfl (omove (v := .bool true) rfl rfl (ev (v := .bool true) rfl rfl) ?_)
        refine mlOn (e := 162) rfl rfl rfl rfl (omove (v := .slice (some ⟨gW, 0, none⟩) ((n0 + 2)) ((n0 + 2))) rfl rfl (ev (v := .slice (some ⟨gW, 0, none⟩) ((n0 + 2)) ((n0 + 2))) rfl rfl) ?_)
        refine mlOn (e := 162) rfl rfl rfl rfl (oload1 (v := .slice p0 n0 c0) oneN hS 7 rfl rfl (ev rfl rfl) rfl rfl ?_)
        refine mlOn (e := 162) rfl rfl rfl rfl (ocall rfl rfl Tryd.call18 rfl ((kept_any (hS.sl 6 rfl) (hx.below hS.below (Nat.le_refl _)) (by omega)).mono RetB.u) (args2 (ev rfl rfl) (ev rfl rfl)) ?_)
        rintro _ w4 ⟨_, _, rfl, ⟨rfl, rfl⟩, hN⟩
        refine ⟨_, rfl, ?_⟩
        replace hS := hS.news hN; clear hN
        refine ml rfl (opick (b := true) (v := .bool true) rfl rfl (ev (v := .bool true) rfl rfl) (ev (v := .bool true) rfl rfl) ?_)
        refine ml rfl (omove (v := .bool true) rfl rfl (ev (v := .bool true) rfl rfl) ?_)
        refine mlOn (e := 167) rfl rfl rfl rfl (ocall rfl rfl Tryd.call19 rfl ((lives_any).mono RetB.u) (args0 ) ?_)
        rintro _ w5 ⟨_, _, rfl, ⟨rfl, rfl⟩, hN⟩
        refine ⟨_, rfl, ?_⟩
        replace hS := hS.news hN; clear hN
        refine ml rfl (opick (b := true) (v := .bool true) rfl rfl (ev (v := .bool true) rfl rfl) (ev (v := .bool true) rfl rfl) ?_)
        refine ml rfl (ostore [.bool true] [.bool true] Tryd.sizeOf4 hS 8 rfl rfl (ev rfl rfl) (ev (v := .bool true) rfl rfl) rfl rfl rfl rfl rfl rfl ?_)
        clear hS; intro w6 hS
        refine mnil ?_
        refine thenN ?_
        refine wleave ?_
        refine mret1 Tryd.results3 hS (fun w9 hS => (tellC1 (v := .bool true) oneB hS 7 rfl rfl rfl)) (fun w9 hS => ?_)
        exact ⟨_, _, rfl, isI, New.nil hS.below⟩

set_option maxRecDepth 100000 in
set_option maxHeartbeats 16000000 in
theorem forms_w {p0 : Option Addr} {n0 c0 N : Nat} {i : Int} {xs : List Nat} {w : World} (hx : Sl w p0 n0 c0 xs) (hn : n0 ≤ 1048576) (hN : N < 18446744073709551616) (hi63 : i ≤ 9223372036854775807) (ht : Tab w) :
    Calls Tryd.prog 3 #[.slice p0 n0 c0, .int .u64 ((N : Nat) : Int), .int .i64 i] w (Ret (Is (.bool true)) w) := by
  have hlen : xs.length = n0 := hx.len
  have hll : ll (val xs) ≤ n0 := by rw [← tl_ll hx.lims, ← hlen]; exact tl_le _ _
  obtain ⟨T, htr1, htr2⟩ := trail_ex hx.lims (by omega)
  have hS := Sep.init w
  refine wentM Tryd.func3 rfl (n := 170) rfl rfl ?_
  refine wseq ?_
  refine wreg ?_
  refine wl rfl (obox [.slice p0 n0 c0] hS rfl rfl (ev (v := .slice p0 n0 c0) rfl rfl) rfl ?_)
  clear hS; intro g1 w2 hS
  refine wl rfl (oalloc [.bool false] hS rfl rfl Tryd.zeroValue4 rfl ?_)
  clear hS; intro g3 w4 hS
  refine wnil ?_
  refine thenN ?_
  refine wseq ?_
  refine wreg ?_
  refine wl rfl (oload1 (v := .slice p0 n0 c0) oneN hS 1 rfl rfl (ev rfl rfl) rfl rfl ?_)
  refine wl rfl (ocall rfl rfl Tryd.call4 rfl ((lend_any (hx.below hS.below (Nat.le_refl _)) (by omega)).mono RetLend.u) (args1 (ev rfl rfl)) ?_)
  rintro _ w5 ⟨_, _, rfl, ⟨gW, rfl, rfl⟩, hN⟩
  refine ⟨_, rfl, ?_⟩
  replace hS := hS.news hN; clear hN
  refine wl rfl (omove (v := .tuple #[.slice (some ⟨gW, 0, none⟩) ((n0 + 2)) ((n0 + 2)), .slice (some ⟨gW, 1, none⟩) n0 ((n0 + 1))]) rfl rfl (ev (v := .tuple #[.slice (some ⟨gW, 0, none⟩) ((n0 + 2)) ((n0 + 2)), .slice (some ⟨gW, 1, none⟩) n0 ((n0 + 1))]) rfl rfl) ?_)
  refine wl rfl (oextract (vs := [.slice (some ⟨gW, 0, none⟩) ((n0 + 2)) ((n0 + 2)), .slice (some ⟨gW, 1, none⟩) n0 ((n0 + 1))]) (v := .slice (some ⟨gW, 0, none⟩) ((n0 + 2)) ((n0 + 2))) rfl rfl (ev (v := .tuple #[.slice (some ⟨gW, 0, none⟩) ((n0 + 2)) ((n0 + 2)), .slice (some ⟨gW, 1, none⟩) n0 ((n0 + 1))]) rfl rfl) rfl ?_)
  refine wl rfl (oextract (vs := [.slice (some ⟨gW, 0, none⟩) ((n0 + 2)) ((n0 + 2)), .slice (some ⟨gW, 1, none⟩) n0 ((n0 + 1))]) (v := .slice (some ⟨gW, 1, none⟩) n0 ((n0 + 1))) rfl rfl (ev (v := .tuple #[.slice (some ⟨gW, 0, none⟩) ((n0 + 2)) ((n0 + 2)), .slice (some ⟨gW, 1, none⟩) n0 ((n0 + 1))]) rfl rfl) rfl ?_)
  refine wl rfl (oassign (v := .slice (some ⟨gW, 0, none⟩) ((n0 + 2)) ((n0 + 2))) rfl rfl (ev (v := .slice (some ⟨gW, 0, none⟩) ((n0 + 2)) ((n0 + 2))) rfl rfl) ?_)
  refine wl rfl (oassign (v := .slice (some ⟨gW, 1, none⟩) n0 ((n0 + 1))) rfl rfl (ev (v := .slice (some ⟨gW, 1, none⟩) n0 ((n0 + 1))) rfl rfl) ?_)
  refine wnil ?_
  refine thenN ?_
  refine wseq ?_
  refine wreg ?_
  refine wl rfl (omove (v := .slice (some ⟨gW, 1, none⟩) n0 ((n0 + 1))) rfl rfl (ev (v := .slice (some ⟨gW, 1, none⟩) n0 ((n0 + 1))) rfl rfl) ?_)
  refine wl rfl (ocall rfl rfl Tryd.call5 rfl ((norm_any (lent (hS.sl 0 rfl) hx.len) (by omega)).mono RetN.m) (args1 (ev rfl rfl)) ?_)
  rintro _ w6 ⟨_, _, rfl, ⟨px, nx, cx, rfl, rfl⟩, hN⟩
  refine ⟨_, rfl, ?_⟩
  replace hS := hS.news hN; clear hN
  refine wl rfl (omove (v := .slice (some ⟨gW, 1, none⟩) n0 ((n0 + 1))) rfl rfl (ev (v := .slice (some ⟨gW, 1, none⟩) n0 ((n0 + 1))) rfl rfl) ?_)
  refine wl rfl (ocall rfl rfl Tryd.call5 rfl ((norm_any (lent (hS.sl 1 rfl) hx.len) (by omega)).mono RetN.u) (args1 (ev rfl rfl)) ?_)
  rintro _ w7 ⟨_, _, rfl, ⟨py, ny, cy, rfl, rfl⟩, hN⟩
  refine ⟨_, rfl, ?_⟩
  replace hS := hS.news hN; clear hN
  refine wl rfl (oassign (v := .slice px nx cx) rfl rfl (ev (v := .slice px nx cx) rfl rfl) ?_)
  refine wl rfl (oassign (v := .slice py ny cy) rfl rfl (ev (v := .slice py ny cy) rfl rfl) ?_)
  refine wnil ?_
  refine thenN ?_
  refine wseq ?_
  refine wreg ?_
  refine wl rfl (oload1 (v := .slice p0 n0 c0) oneN hS 4 rfl rfl (ev rfl rfl) rfl rfl ?_)
  refine wl rfl (ocall rfl rfl Tryd.call6 rfl ((rnorm_any (hx.below hS.below (Nat.le_refl _)) (by omega)).mono RetN.u) (args1 (ev rfl rfl)) ?_)
  rintro _ w8 ⟨_, _, rfl, ⟨pz, nz, cz, rfl, rfl⟩, hN⟩
  refine ⟨_, rfl, ?_⟩
  replace hS := hS.news hN; clear hN
  refine wl rfl (oassign (v := .slice pz nz cz) rfl rfl (ev (v := .slice pz nz cz) rfl rfl) ?_)
  refine wnil ?_
  refine thenN ?_
  refine wseq ?_
  refine wreg ?_
  refine wl rfl (omove (v := .slice (some ⟨gW, 1, none⟩) n0 ((n0 + 1))) rfl rfl (ev (v := .slice (some ⟨gW, 1, none⟩) n0 ((n0 + 1))) rfl rfl) ?_)
  by_cases hsm : ll (val xs) ≤ 2
  ·
    have hlt64 : val xs < 18446744073709551616 := Nat.lt_of_lt_of_le (lt_ll _) (Nat.le_trans (pow_le hsm) (by decide))
    refine wl rfl (ocall rfl rfl Tryd.call7 rfl (wuint64 (lent (hS.sl 3 rfl) hx.len) hlt64) (args1 (ev rfl rfl)) ?_)
    rintro _ w9 ⟨_, _, rfl, ⟨rfl, rfl⟩, hN⟩
    refine ⟨_, rfl, ?_⟩
    replace hS := hS.news hN; clear hN
    refine wl rfl (omove (v := .tuple #[.int .u64 (((val xs : Nat) : Int)), .bool true]) rfl rfl (ev (v := .tuple #[.int .u64 (((val xs : Nat) : Int)), .bool true]) rfl rfl) ?_)
    refine wl rfl (oextract (vs := [.int .u64 (((val xs : Nat) : Int)), .bool true]) (v := .int .u64 (((val xs : Nat) : Int))) rfl rfl (ev (v := .tuple #[.int .u64 (((val xs : Nat) : Int)), .bool true]) rfl rfl) rfl ?_)
    refine wl rfl (oextract (vs := [.int .u64 (((val xs : Nat) : Int)), .bool true]) (v := .bool true) rfl rfl (ev (v := .tuple #[.int .u64 (((val xs : Nat) : Int)), .bool true]) rfl rfl) rfl ?_)
    refine wl rfl (oassign (v := .int .u64 (((val xs : Nat) : Int))) rfl rfl (ev (v := .int .u64 (((val xs : Nat) : Int))) rfl rfl) ?_)
    refine wl rfl (oassign (v := .bool true) rfl rfl (ev (v := .bool true) rfl rfl) ?_)
    refine wnil ?_
    refine thenN ?_
    refine wseq ?_
    refine wreg ?_
    refine wl rfl (omove (v := .slice pz nz cz) rfl rfl (ev (v := .slice pz nz cz) rfl rfl) ?_)
    refine wl rfl (olen rfl rfl rfl Tryd.runUnderlying23 (p := pz) (k := nz) (m := cz) (ev (v := .slice pz nz cz) rfl rfl) ?_)
    refine wl rfl (obin (u := .int .i64 (((nz : Nat) : Int))) (v := .int .i64 2) (z := .bool true) rfl rfl (ev (v := .int .i64 (((nz : Nat) : Int))) rfl rfl) (evc (v := .int .i64 2)) (bin_leq (decide_eq_true (by have h1 := (hS.sl 0 rfl).lln; omega))) ?_)
    refine wl rfl (oassign (v := .bool true) rfl rfl (ev (v := .bool true) rfl rfl) ?_)
    refine wnil ?_
    refine thenN ?_
    refine wseq ?_
    refine wreg ?_
    refine wl rfl (oassign (v := .int .u64 0) rfl rfl (evc (v := .int .u64 0)) ?_)
    refine wnil ?_
    refine thenN ?_
    refine wseq ?_
    refine wseq ?_
    refine wreg ?_
    refine wl rfl (omove (v := .slice pz nz cz) rfl rfl (ev (v := .slice pz nz cz) rfl rfl) ?_)
    refine wl rfl (olen rfl rfl rfl Tryd.runUnderlying23 (p := pz) (k := nz) (m := cz) (ev (v := .slice pz nz cz) rfl rfl) ?_)
    have hzl : nz = ll (val xs) := (hS.sl 0 rfl).lln
    refine wl rfl (obin (u := .int .i64 (((nz : Nat) : Int))) (v := .int .i64 1) (z := .int .i64 ((((nz : Nat) : Int) - 1))) rfl rfl (ev (v := .int .i64 (((nz : Nat) : Int))) rfl rfl) (evc (v := .int .i64 1)) (bin_sub (wrap_i64 (by omega) (by omega))) ?_)
    refine wl rfl (oassign (v := .int .i64 ((((nz : Nat) : Int) - 1))) rfl rfl (ev (v := .int .i64 ((((nz : Nat) : Int) - 1))) rfl rfl) ?_)
    refine wnil ?_
    refine thenN ?_
    refine wblock ?_
    refine wloop (σ := Nat) (fun k a w' => ∃ (fb : Nat → Value) (z : Int) (v : Nat), a = act 170 (sets fb [(1, .int .u64 (((N : Nat) : Int))), (2, .int .i64 i), (3, .pointer (some ⟨g1, 0, none⟩)), (6, .pointer (some ⟨g3, 0, none⟩)), (7, .slice (some ⟨gW, 0, none⟩) ((n0 + 2)) ((n0 + 2))), (8, .slice (some ⟨gW, 1, none⟩) n0 ((n0 + 1))), (9, .slice px nx cx), (10, .slice py ny cy), (11, .slice pz nz cz), (12, .int .u64 (((val xs : Nat) : Int))), (13, .bool true), (14, .bool true), (15, .int .u64 (((v : Nat) : Int))), (16, .int .i64 z)]) ∧ Sep w [.row pz nz cz (lim (val xs)), .row py ny cy (lim (val xs)), .rowm px nx cx (lim (val xs)), .row (some ⟨gW, 0, none⟩) (n0 + 2) (n0 + 2) (whole xs), .blk g3 [.bool false] 4, .blk g1 [.slice p0 n0 c0] 23] w' ∧ (k ≤ nz) ∧ (z = ((k : Nat) : Int) - 1) ∧ (v = val xs / 4294967296 ^ k)) (fun k => k) (nz) ⟨_, _, 0, act_sets (l := [(1, .int .u64 (((N : Nat) : Int))), (2, .int .i64 i), (3, .pointer (some ⟨g1, 0, none⟩)), (6, .pointer (some ⟨g3, 0, none⟩)), (7, .slice (some ⟨gW, 0, none⟩) ((n0 + 2)) ((n0 + 2))), (8, .slice (some ⟨gW, 1, none⟩) n0 ((n0 + 1))), (9, .slice px nx cx), (10, .slice py ny cy), (11, .slice pz nz cz), (12, .int .u64 (((val xs : Nat) : Int))), (13, .bool true), (14, .bool true), (15, .int .u64 0), (16, .int .i64 ((((nz : Nat) : Int) - 1)))]) ⟨rfl, rfl, rfl, rfl, rfl, rfl, rfl, rfl, rfl, rfl, rfl, rfl, rfl, rfl, trivial⟩, hS, Nat.le_refl _, rfl, (top_out (by omega)).symm⟩ ?_
    clear hS; rintro k _ w10 ⟨fb, z, v, rfl, hS, hk, hz, hv⟩
    refine wseq ?_
    refine wseq ?_
    refine wreg ?_
    refine wl rfl (omove (v := .int .i64 z) rfl rfl (ev (v := .int .i64 z) rfl rfl) ?_)
    by_cases hk0 : k = 0
    ·
      refine wl rfl (obin (u := .int .i64 z) (v := .int .i64 0) (z := .bool false) rfl rfl (ev (v := .int .i64 z) rfl rfl) (evc (v := .int .i64 0)) (bin_geq (decide_eq_false (by omega))) ?_)
      refine wl rfl (omove (v := .bool false) rfl rfl (ev (v := .bool false) rfl rfl) ?_)
      refine wlOff (e := 49) (d := 50) (b' := false) rfl rfl rfl rfl rfl rfl ?_
      refine wl rfl (opick (b := false) (v := .bool false) rfl rfl (ev (v := .bool false) rfl rfl) (evc (v := .bool false)) ?_)
      refine wnil ?_
      refine thenN ?_
      refine wF (ev (v := .bool false) rfl rfl) ?_
      refine wexit ?_
      refine thenE ?_
      refine thenE ?_
      refine blkE ?_
      refine thenN ?_
      refine wseq ?_
      refine wseq ?_
      refine wreg ?_
      refine wl rfl (omove (v := .slice px nx cx) rfl rfl (ev (v := .slice px nx cx) rfl rfl) ?_)
      refine wl rfl (omove (v := .slice pz nz cz) rfl rfl (ev (v := .slice pz nz cz) rfl rfl) ?_)
      refine wl rfl (ocall rfl rfl Tryd.call8 rfl ((same_yes (hS.slm 2 rfl) (hS.sl 0 rfl)).mono RetB.u) (args2 (ev rfl rfl) (ev rfl rfl)) ?_)
      rintro _ w11 ⟨_, _, rfl, ⟨rfl, rfl⟩, hN⟩
      refine ⟨_, rfl, ?_⟩
      replace hS := hS.news hN; clear hN
      refine wl rfl (onot (b := true) rfl rfl (ev (v := .bool true) rfl rfl) ?_)
      refine wl rfl (omove (v := .bool false) rfl rfl (ev (v := .bool false) rfl rfl) ?_)
      refine wlOn (e := 66) rfl rfl rfl rfl (omove (v := .int .u64 (((N : Nat) : Int))) rfl rfl (ev (v := .int .u64 (((N : Nat) : Int))) rfl rfl) ?_)
      refine wlOn (e := 66) rfl rfl rfl rfl (ocall rfl rfl Tryd.call9 rfl ((of_any rfl (by omega)).mono RetN.u) (args1 (ev rfl rfl)) ?_)
      rintro _ w12 ⟨_, _, rfl, ⟨po1, no1, co1, rfl, rfl⟩, hN⟩
      refine ⟨_, rfl, ?_⟩
      replace hS := hS.news hN; clear hN
      refine wlOn (e := 66) rfl rfl rfl rfl (omove (v := .int .u64 (((N : Nat) : Int))) rfl rfl (ev (v := .int .u64 (((N : Nat) : Int))) rfl rfl) ?_)
      refine wlOn (e := 66) rfl rfl rfl rfl (ocall rfl rfl Tryd.call10 rfl ((rof_any rfl (by omega)).mono RetN.u) (args1 (ev rfl rfl)) ?_)
      rintro _ w13 ⟨_, _, rfl, ⟨po2, no2, co2, rfl, rfl⟩, hN⟩
      refine ⟨_, rfl, ?_⟩
      replace hS := hS.news hN; clear hN
      refine wlOn (e := 66) rfl rfl rfl rfl (ocall rfl rfl Tryd.call8 rfl ((same_yes (hS.sl 1 rfl) (hS.sl 0 rfl)).mono RetB.u) (args2 (ev rfl rfl) (ev rfl rfl)) ?_)
      rintro _ w14 ⟨_, _, rfl, ⟨rfl, rfl⟩, hN⟩
      refine ⟨_, rfl, ?_⟩
      replace hS := hS.news hN; clear hN
      refine wlOn (e := 66) rfl rfl rfl rfl (onot (b := true) rfl rfl (ev (v := .bool true) rfl rfl) ?_)
      refine wl rfl (opick (b := false) (v := .bool false) rfl rfl (ev (v := .bool false) rfl rfl) (ev (v := .bool false) rfl rfl) ?_)
      refine wl rfl (omove (v := .bool false) rfl rfl (ev (v := .bool false) rfl rfl) ?_)
      refine wlOn (e := 74) rfl rfl rfl rfl (omove (v := .bool true) rfl rfl (ev (v := .bool true) rfl rfl) ?_)
      refine wlOn (e := 74) rfl rfl rfl rfl (omove (v := .bool true) rfl rfl (ev (v := .bool true) rfl rfl) ?_)
      refine wlOn (e := 74) rfl rfl rfl rfl (obin (u := .bool true) (v := .bool true) (z := .bool false) rfl rfl (ev (v := .bool true) rfl rfl) (ev (v := .bool true) rfl rfl) (bin_neqB Tryd.underlying4 (rfl)) ?_)
      refine wl rfl (opick (b := false) (v := .bool false) rfl rfl (ev (v := .bool false) rfl rfl) (ev (v := .bool false) rfl rfl) ?_)
      refine wl rfl (omove (v := .bool false) rfl rfl (ev (v := .bool false) rfl rfl) ?_)
      refine wlOn (e := 79) rfl rfl rfl rfl (omove (v := .int .u64 (((val xs : Nat) : Int))) rfl rfl (ev (v := .int .u64 (((val xs : Nat) : Int))) rfl rfl) ?_)
      refine wlOn (e := 79) rfl rfl rfl rfl (omove (v := .int .u64 (((v : Nat) : Int))) rfl rfl (ev (v := .int .u64 (((v : Nat) : Int))) rfl rfl) ?_)
      refine wlOn (e := 79) rfl rfl rfl rfl (obin (u := .int .u64 (((val xs : Nat) : Int))) (v := .int .u64 (((v : Nat) : Int))) (z := .bool false) rfl rfl (ev (v := .int .u64 (((val xs : Nat) : Int))) rfl rfl) (ev (v := .int .u64 (((v : Nat) : Int))) rfl rfl) (bin_neq (neF (by rw [hv, hk0, Nat.pow_zero, Nat.div_one]))) ?_)
      refine wl rfl (opick (b := false) (v := .bool false) rfl rfl (ev (v := .bool false) rfl rfl) (ev (v := .bool false) rfl rfl) ?_)
      refine wnil ?_
      refine thenN ?_
      refine wF (ev (v := .bool false) rfl rfl) ?_
      refine wskip ?_
      refine thenN ?_
      refine wseq ?_
      refine wseq ?_
      refine wstage 21 [84, 85, 86, 87, 88, 89, 90, 91, 92, 93, 94, 95, 96, 97, 98, 99, 100, 101, 102, 103, 104] [[], [0], [], [2, 0, 1], [1, 3, 0, 2], [4, 0, 1, 2, 3], [5, 0, 1, 2, 3, 4], [5, 0, 1, 2, 3, 4], [5, 6, 7, 0, 1, 2, 3, 4], [5, 0, 1, 2, 3, 4], [5, 0, 1, 2, 3, 4], [5, 9, 10, 0, 1, 2, 3, 4, 6, 7, 8], [5, 8, 11, 0, 1, 2, 3, 4, 6, 7, 9, 10], [5, 12, 0, 1, 2, 3, 4, 6, 7, 8, 9, 10, 11], [13, 0, 1, 2, 3, 4, 5, 6, 7, 8, 9, 10, 11, 12], [14, 0, 1, 2, 3, 4, 5, 6, 7, 8, 9, 10, 11, 12, 13], [14, 15, 0, 1, 2, 3, 4, 5, 6, 7, 8, 9, 10, 11, 12, 13], [14, 0, 1, 2, 3, 4, 5, 6, 7, 8, 9, 10, 11, 12, 13], [14, 17, 0, 1, 2, 3, 4, 5, 6, 7, 8, 9, 10, 11, 12, 13, 15, 16], [14, 16, 18, 0, 1, 2, 3, 4, 5, 6, 7, 8, 9, 10, 11, 12, 13, 15, 17], [14, 19, 0, 1, 2, 3, 4, 5, 6, 7, 8, 9, 10, 11, 12, 13, 15, 16, 17, 18]] [[], [], [], [], [], [], [], [], [], [], [], [], [], [], [], [], [], [], [], [], []] [] [] (fun i9 => ([fun _ => Is (.slice (some ⟨gW, 1, none⟩) n0 ((n0 + 1))), fun _ => Is (.int .i64 (((blen (val xs) : Nat) : Int))), fun _ => Is (.slice p0 n0 c0), fun _ => Is (.int .i64 (((blen (val xs) : Nat) : Int))), fun _ => Is (.bool false), fun _ => Is (.bool false), fun _ => Is (.slice (some ⟨gW, 1, none⟩) n0 ((n0 + 1))), fun _ => Is (.int .i64 i), fun _ => Is (.int .u64 (((btI xs i : Nat) : Int))), fun _ => Is (.slice p0 n0 c0), fun _ => Is (.int .i64 i), fun _ => Is (.int .u64 (((btI xs i : Nat) : Int))), fun _ => Is (.bool false), fun _ => Is (.bool false), fun _ => Is (.bool false), fun _ => Is (.slice (some ⟨gW, 1, none⟩) n0 ((n0 + 1))), fun _ => Is (.int .i64 (((T : Nat) : Int))), fun _ => Is (.slice p0 n0 c0), fun _ => Is (.int .i64 (((T : Nat) : Int))), fun _ => Is (.bool false), fun _ => Is (.bool false)] : List (List Value → Tell)).getD i9 (fun _ _ _ => False)) (heldNil) (fun d _ _ _ _ h => (by cases d <;> exact h)) (by kernel_rfl) (by kernel_rfl) (by kernel_rfl) hS ?_ ?_
      ·
        refine stepsCons rfl ?_ ?_
        · intro Q f' w' ρ S ho hT hS hB
          exact .inl ⟨want_none rfl, omove (v := .slice (some ⟨gW, 1, none⟩) n0 ((n0 + 1))) rfl rfl (ev (v := .slice (some ⟨gW, 1, none⟩) n0 ((n0 + 1))) rfl (ho 8 rfl)) ⟨_, _, rfl, isI, New.same _⟩⟩
        refine stepsCons rfl ?_ ?_
        · intro Q f' w' ρ S ho hT hS hB
          obtain ⟨hv0, hr0⟩ := (hT 0 84 rfl rfl : (Is (.slice (some ⟨gW, 1, none⟩) n0 ((n0 + 1)))) (f' 84) (ρ 0))
          obtain hS := hS.flat1 hr0
          refine .inl ⟨want_none rfl, ocall rfl rfl Tryd.call11 rfl ((len_any (lent (hS.sl 5 rfl) hx.len) (by omega)).mono RetLen.u) (args1 (ev rfl hv0)) ?_⟩
          rintro _ w9 ⟨_, _, rfl, hTT, hN⟩
          exact ⟨_, rfl, _, _, rfl, hTT, hN⟩
        refine stepsCons rfl ?_ ?_
        · intro Q f' w' ρ S ho hT hS hB
          exact .inl ⟨want_none rfl, oload1 (v := .slice p0 n0 c0) oneN hS 7 rfl rfl (ev rfl (ho 3 rfl)) rfl rfl ⟨_, _, rfl, isI, New.same _⟩⟩
        refine stepsCons rfl ?_ ?_
        · intro Q f' w' ρ S ho hT hS hB
          obtain ⟨hv2, hr2⟩ := (hT 2 86 rfl rfl : (Is (.slice p0 n0 c0)) (f' 86) (ρ 2))
          obtain hS := hS.flat1 hr2
          refine .inl ⟨want_none rfl, ocall rfl rfl Tryd.call12 rfl ((rlen_any (hx.below hS.below (Nat.le_refl _)) (by omega)).mono RetInt.u) (args1 (ev rfl hv2)) ?_⟩
          rintro _ w9 ⟨_, _, rfl, hTT, hN⟩
          exact ⟨_, rfl, _, _, rfl, hTT, hN⟩
        refine stepsCons rfl ?_ ?_
        · intro Q f' w' ρ S ho hT hS hB
          obtain ⟨hv1, hr1⟩ := (hT 1 85 rfl rfl : (Is (.int .i64 (((blen (val xs) : Nat) : Int)))) (f' 85) (ρ 1))
          obtain ⟨hv3, hr3⟩ := (hT 3 87 rfl rfl : (Is (.int .i64 (((blen (val xs) : Nat) : Int)))) (f' 87) (ρ 3))
          obtain hS := hS.flat2 hr1 hr3
          exact .inl ⟨want_none rfl, obin (u := .int .i64 (((blen (val xs) : Nat) : Int))) (v := .int .i64 (((blen (val xs) : Nat) : Int))) (z := .bool false) rfl rfl (ev (v := .int .i64 (((blen (val xs) : Nat) : Int))) rfl hv1) (ev (v := .int .i64 (((blen (val xs) : Nat) : Int))) rfl hv3) (bin_neq (neF rfl)) ⟨_, _, rfl, isI, New.same _⟩⟩
        refine stepsCons rfl ?_ ?_
        · intro Q f' w' ρ S ho hT hS hB
          obtain ⟨hv4, hr4⟩ := (hT 4 88 rfl rfl : (Is (.bool false)) (f' 88) (ρ 4))
          obtain hS := hS.flat1 hr4
          exact .inl ⟨want_none rfl, omove (v := .bool false) rfl rfl (ev (v := .bool false) rfl hv4) ⟨_, _, rfl, isI, New.same _⟩⟩
        refine stepsCons rfl ?_ ?_
        · intro Q f' w' ρ S ho hT hS hB
          obtain ⟨hv5, hr5⟩ := (hT 5 89 rfl rfl : (Is (.bool false)) (f' 89) (ρ 5))
          obtain hS := hS.flat1 hr5
          exact .inl ⟨want_on (e := 89) rfl rfl rfl hv5, omove (v := .slice (some ⟨gW, 1, none⟩) n0 ((n0 + 1))) rfl rfl (ev (v := .slice (some ⟨gW, 1, none⟩) n0 ((n0 + 1))) rfl (ho 8 rfl)) ⟨_, _, rfl, isI, New.same _⟩⟩
        refine stepsCons rfl ?_ ?_
        · intro Q f' w' ρ S ho hT hS hB
          obtain ⟨hv5, hr5⟩ := (hT 5 89 rfl rfl : (Is (.bool false)) (f' 89) (ρ 5))
          obtain hS := hS.flat1 hr5
          exact .inl ⟨want_on (e := 89) rfl rfl rfl hv5, omove (v := .int .i64 i) rfl rfl (ev (v := .int .i64 i) rfl (ho 2 rfl)) ⟨_, _, rfl, isI, New.same _⟩⟩
        refine stepsCons rfl ?_ ?_
        · intro Q f' w' ρ S ho hT hS hB
          obtain ⟨hv5, hr5⟩ := (hT 5 89 rfl rfl : (Is (.bool false)) (f' 89) (ρ 5))
          obtain ⟨hv6, hr6⟩ := (hT 6 90 rfl rfl : (Is (.slice (some ⟨gW, 1, none⟩) n0 ((n0 + 1)))) (f' 90) (ρ 6))
          obtain ⟨hv7, hr7⟩ := (hT 7 91 rfl rfl : (Is (.int .i64 i)) (f' 91) (ρ 7))
          obtain hS := hS.flat3 hr5 hr6 hr7
          refine .inl ⟨want_on (e := 89) rfl rfl rfl hv5, ocall rfl rfl Tryd.call13 rfl (wnbitI (lent (hS.sl 5 rfl) hx.len) hi63) (args2 (ev rfl hv6) (ev rfl hv7)) ?_⟩
          rintro _ w9 ⟨_, _, rfl, hTT, hN⟩
          exact ⟨_, rfl, _, _, rfl, hTT, hN⟩
        refine stepsCons rfl ?_ ?_
        · intro Q f' w' ρ S ho hT hS hB
          obtain ⟨hv5, hr5⟩ := (hT 5 89 rfl rfl : (Is (.bool false)) (f' 89) (ρ 5))
          obtain hS := hS.flat1 hr5
          exact .inl ⟨want_on (e := 89) rfl rfl rfl hv5, oload1 (v := .slice p0 n0 c0) oneN hS 7 rfl rfl (ev rfl (ho 3 rfl)) rfl rfl ⟨_, _, rfl, isI, New.same _⟩⟩
        refine stepsCons rfl ?_ ?_
        · intro Q f' w' ρ S ho hT hS hB
          obtain ⟨hv5, hr5⟩ := (hT 5 89 rfl rfl : (Is (.bool false)) (f' 89) (ρ 5))
          obtain hS := hS.flat1 hr5
          exact .inl ⟨want_on (e := 89) rfl rfl rfl hv5, omove (v := .int .i64 i) rfl rfl (ev (v := .int .i64 i) rfl (ho 2 rfl)) ⟨_, _, rfl, isI, New.same _⟩⟩
        refine stepsCons rfl ?_ ?_
        · intro Q f' w' ρ S ho hT hS hB
          obtain ⟨hv5, hr5⟩ := (hT 5 89 rfl rfl : (Is (.bool false)) (f' 89) (ρ 5))
          obtain ⟨hv9, hr9⟩ := (hT 9 93 rfl rfl : (Is (.slice p0 n0 c0)) (f' 93) (ρ 9))
          obtain ⟨hv10, hr10⟩ := (hT 10 94 rfl rfl : (Is (.int .i64 i)) (f' 94) (ρ 10))
          obtain hS := hS.flat3 hr5 hr9 hr10
          refine .inl ⟨want_on (e := 89) rfl rfl rfl hv5, ocall rfl rfl Tryd.call14 rfl (wqbitI (hx.below hS.below (Nat.le_refl _)) hi63) (args2 (ev rfl hv9) (ev rfl hv10)) ?_⟩
          rintro _ w9 ⟨_, _, rfl, hTT, hN⟩
          exact ⟨_, rfl, _, _, rfl, hTT, hN⟩
        refine stepsCons rfl ?_ ?_
        · intro Q f' w' ρ S ho hT hS hB
          obtain ⟨hv5, hr5⟩ := (hT 5 89 rfl rfl : (Is (.bool false)) (f' 89) (ρ 5))
          obtain ⟨hv8, hr8⟩ := (hT 8 92 rfl rfl : (Is (.int .u64 (((btI xs i : Nat) : Int)))) (f' 92) (ρ 8))
          obtain ⟨hv11, hr11⟩ := (hT 11 95 rfl rfl : (Is (.int .u64 (((btI xs i : Nat) : Int)))) (f' 95) (ρ 11))
          obtain hS := hS.flat3 hr5 hr8 hr11
          exact .inl ⟨want_on (e := 89) rfl rfl rfl hv5, obin (u := .int .u64 (((btI xs i : Nat) : Int))) (v := .int .u64 (((btI xs i : Nat) : Int))) (z := .bool false) rfl rfl (ev (v := .int .u64 (((btI xs i : Nat) : Int))) rfl hv8) (ev (v := .int .u64 (((btI xs i : Nat) : Int))) rfl hv11) (bin_neq (neF rfl)) ⟨_, _, rfl, isI, New.same _⟩⟩
        refine stepsCons rfl ?_ ?_
        · intro Q f' w' ρ S ho hT hS hB
          obtain ⟨hv5, hr5⟩ := (hT 5 89 rfl rfl : (Is (.bool false)) (f' 89) (ρ 5))
          obtain ⟨hv12, hr12⟩ := (hT 12 96 rfl rfl : (Is (.bool false)) (f' 96) (ρ 12))
          obtain hS := hS.flat2 hr5 hr12
          exact .inl ⟨want_none rfl, opick (b := false) (v := .bool false) rfl rfl (ev (v := .bool false) rfl hv5) (ev (v := .bool false) rfl hv12) ⟨_, _, rfl, isI, New.same _⟩⟩
        refine stepsCons rfl ?_ ?_
        · intro Q f' w' ρ S ho hT hS hB
          obtain ⟨hv13, hr13⟩ := (hT 13 97 rfl rfl : (Is (.bool false)) (f' 97) (ρ 13))
          obtain hS := hS.flat1 hr13
          exact .inl ⟨want_none rfl, omove (v := .bool false) rfl rfl (ev (v := .bool false) rfl hv13) ⟨_, _, rfl, isI, New.same _⟩⟩
        refine stepsCons rfl ?_ ?_
        · intro Q f' w' ρ S ho hT hS hB
          obtain ⟨hv14, hr14⟩ := (hT 14 98 rfl rfl : (Is (.bool false)) (f' 98) (ρ 14))
          obtain hS := hS.flat1 hr14
          exact .inl ⟨want_on (e := 98) rfl rfl rfl hv14, omove (v := .slice (some ⟨gW, 1, none⟩) n0 ((n0 + 1))) rfl rfl (ev (v := .slice (some ⟨gW, 1, none⟩) n0 ((n0 + 1))) rfl (ho 8 rfl)) ⟨_, _, rfl, isI, New.same _⟩⟩
        refine stepsCons rfl ?_ ?_
        · intro Q f' w' ρ S ho hT hS hB
          obtain ⟨hv14, hr14⟩ := (hT 14 98 rfl rfl : (Is (.bool false)) (f' 98) (ρ 14))
          obtain ⟨hv15, hr15⟩ := (hT 15 99 rfl rfl : (Is (.slice (some ⟨gW, 1, none⟩) n0 ((n0 + 1)))) (f' 99) (ρ 15))
          obtain hS := hS.flat2 hr14 hr15
          refine .inl ⟨want_on (e := 98) rfl rfl rfl hv14, ocall rfl rfl Tryd.call15 rfl (htr1 _ _ _ _ (lent (hS.sl 5 rfl) hx.len) (fun j v hj => tab_keep hS (ht j v hj))) (args1 (ev rfl hv15)) ?_⟩
          rintro _ w9 ⟨_, _, rfl, hTT, hN⟩
          exact ⟨_, rfl, _, _, rfl, hTT, hN⟩
        refine stepsCons rfl ?_ ?_
        · intro Q f' w' ρ S ho hT hS hB
          obtain ⟨hv14, hr14⟩ := (hT 14 98 rfl rfl : (Is (.bool false)) (f' 98) (ρ 14))
          obtain hS := hS.flat1 hr14
          exact .inl ⟨want_on (e := 98) rfl rfl rfl hv14, oload1 (v := .slice p0 n0 c0) oneN hS 7 rfl rfl (ev rfl (ho 3 rfl)) rfl rfl ⟨_, _, rfl, isI, New.same _⟩⟩
        refine stepsCons rfl ?_ ?_
        · intro Q f' w' ρ S ho hT hS hB
          obtain ⟨hv14, hr14⟩ := (hT 14 98 rfl rfl : (Is (.bool false)) (f' 98) (ρ 14))
          obtain ⟨hv17, hr17⟩ := (hT 17 101 rfl rfl : (Is (.slice p0 n0 c0)) (f' 101) (ρ 17))
          obtain hS := hS.flat2 hr14 hr17
          refine .inl ⟨want_on (e := 98) rfl rfl rfl hv14, ocall rfl rfl Tryd.call16 rfl (htr2 _ _ _ _ (hx.below hS.below (Nat.le_refl _))) (args1 (ev rfl hv17)) ?_⟩
          rintro _ w9 ⟨_, _, rfl, hTT, hN⟩
          exact ⟨_, rfl, _, _, rfl, hTT, hN⟩
        refine stepsCons rfl ?_ ?_
        · intro Q f' w' ρ S ho hT hS hB
          obtain ⟨hv14, hr14⟩ := (hT 14 98 rfl rfl : (Is (.bool false)) (f' 98) (ρ 14))
          obtain ⟨hv16, hr16⟩ := (hT 16 100 rfl rfl : (Is (.int .i64 (((T : Nat) : Int)))) (f' 100) (ρ 16))
          obtain ⟨hv18, hr18⟩ := (hT 18 102 rfl rfl : (Is (.int .i64 (((T : Nat) : Int)))) (f' 102) (ρ 18))
          obtain hS := hS.flat3 hr14 hr16 hr18
          exact .inl ⟨want_on (e := 98) rfl rfl rfl hv14, obin (u := .int .i64 (((T : Nat) : Int))) (v := .int .i64 (((T : Nat) : Int))) (z := .bool false) rfl rfl (ev (v := .int .i64 (((T : Nat) : Int))) rfl hv16) (ev (v := .int .i64 (((T : Nat) : Int))) rfl hv18) (bin_neq (neF rfl)) ⟨_, _, rfl, isI, New.same _⟩⟩
        refine stepsCons rfl ?_ ?_
        · intro Q f' w' ρ S ho hT hS hB
          obtain ⟨hv14, hr14⟩ := (hT 14 98 rfl rfl : (Is (.bool false)) (f' 98) (ρ 14))
          obtain ⟨hv19, hr19⟩ := (hT 19 103 rfl rfl : (Is (.bool false)) (f' 103) (ρ 19))
          obtain hS := hS.flat2 hr14 hr19
          exact .inl ⟨want_none rfl, opick (b := false) (v := .bool false) rfl rfl (ev (v := .bool false) rfl hv14) (ev (v := .bool false) rfl hv19) ⟨_, _, rfl, isI, New.same _⟩⟩
        exact stepsNil
      ·
        intro vs ρ w15 f' hf hT hS
        obtain ⟨hv0, hr0⟩ := (hT 0 (by decide) : (Is (.slice (some ⟨gW, 1, none⟩) n0 ((n0 + 1)))) (vs 0) (ρ 0))
        obtain ⟨hv1, hr1⟩ := (hT 1 (by decide) : (Is (.int .i64 (((blen (val xs) : Nat) : Int)))) (vs 1) (ρ 1))
        obtain ⟨hv2, hr2⟩ := (hT 2 (by decide) : (Is (.slice p0 n0 c0)) (vs 2) (ρ 2))
        obtain ⟨hv3, hr3⟩ := (hT 3 (by decide) : (Is (.int .i64 (((blen (val xs) : Nat) : Int)))) (vs 3) (ρ 3))
        obtain ⟨hv4, hr4⟩ := (hT 4 (by decide) : (Is (.bool false)) (vs 4) (ρ 4))
        obtain ⟨hv5, hr5⟩ := (hT 5 (by decide) : (Is (.bool false)) (vs 5) (ρ 5))
        obtain ⟨hv6, hr6⟩ := (hT 6 (by decide) : (Is (.slice (some ⟨gW, 1, none⟩) n0 ((n0 + 1)))) (vs 6) (ρ 6))
        obtain ⟨hv7, hr7⟩ := (hT 7 (by decide) : (Is (.int .i64 i)) (vs 7) (ρ 7))
        obtain ⟨hv8, hr8⟩ := (hT 8 (by decide) : (Is (.int .u64 (((btI xs i : Nat) : Int)))) (vs 8) (ρ 8))
        obtain ⟨hv9, hr9⟩ := (hT 9 (by decide) : (Is (.slice p0 n0 c0)) (vs 9) (ρ 9))
        obtain ⟨hv10, hr10⟩ := (hT 10 (by decide) : (Is (.int .i64 i)) (vs 10) (ρ 10))
        obtain ⟨hv11, hr11⟩ := (hT 11 (by decide) : (Is (.int .u64 (((btI xs i : Nat) : Int)))) (vs 11) (ρ 11))
        obtain ⟨hv12, hr12⟩ := (hT 12 (by decide) : (Is (.bool false)) (vs 12) (ρ 12))
        obtain ⟨hv13, hr13⟩ := (hT 13 (by decide) : (Is (.bool false)) (vs 13) (ρ 13))
        obtain ⟨hv14, hr14⟩ := (hT 14 (by decide) : (Is (.bool false)) (vs 14) (ρ 14))
        obtain ⟨hv15, hr15⟩ := (hT 15 (by decide) : (Is (.slice (some ⟨gW, 1, none⟩) n0 ((n0 + 1)))) (vs 15) (ρ 15))
        obtain ⟨hv16, hr16⟩ := (hT 16 (by decide) : (Is (.int .i64 (((T : Nat) : Int)))) (vs 16) (ρ 16))
        obtain ⟨hv17, hr17⟩ := (hT 17 (by decide) : (Is (.slice p0 n0 c0)) (vs 17) (ρ 17))
        obtain ⟨hv18, hr18⟩ := (hT 18 (by decide) : (Is (.int .i64 (((T : Nat) : Int)))) (vs 18) (ρ 18))
        obtain ⟨hv19, hr19⟩ := (hT 19 (by decide) : (Is (.bool false)) (vs 19) (ρ 19))
        obtain ⟨hv20, hr20⟩ := (hT 20 (by decide) : (Is (.bool false)) (vs 20) (ρ 20))
        simp only [pool, if_true, hr0, hr1, hr2, hr3, hr4, hr5, hr6, hr7, hr8, hr9, hr10, hr11, hr12, hr13, hr14, hr15, hr16, hr17, hr18, hr19, hr20, List.nil_append, List.cons_append, List.append_nil] at hS
        simp only [layf, hv0, hv1, hv2, hv3, hv4, hv5, hv6, hv7, hv8, hv9, hv10, hv11, hv12, hv13, hv14, hv15, hv16, hv17, hv18, hv19, hv20] at hf
        subst hf; clear hT hv0 hv1 hv2 hv3 hv4 hv5 hv6 hv7 hv8 hv9 hv10 hv11 hv12 hv13 hv14 hv15 hv16 hv17 hv18 hv19 hv20 hr0 hr1 hr2 hr3 hr4 hr5 hr6 hr7 hr8 hr9 hr10 hr11 hr12 hr13 hr14 hr15 hr16 hr17 hr18 hr19 hr20
        refine wdone rfl ?_
        refine thenN ?_
        refine wF (ev (v := .bool false) rfl rfl) ?_
        refine wskip ?_
        refine thenN ?_
        refine wseq ?_
        refine wreg ?_
        refine wl rfl (oalloc [.int .i64 0] hS rfl rfl Tryd.zeroValue3 rfl ?_)
        clear hS; intro g16 w17 hS
        refine wl rfl (oalloc [.int .i64 0] hS rfl rfl Tryd.zeroValue3 rfl ?_)
        clear hS; intro g18 w19 hS
        refine wl rfl (ostore [.int .i64 (-1)] [.int .i64 (-1)] Tryd.sizeOf3 hS 1 rfl rfl (ev rfl rfl) (evc (v := .int .i64 (-1))) rfl rfl rfl rfl rfl rfl ?_)
        clear hS; intro w20 hS
        refine wl rfl (ostore [.int .i64 0] [.int .i64 0] Tryd.sizeOf3 hS 0 rfl rfl (ev rfl rfl) (evc (v := .int .i64 0)) rfl rfl rfl rfl rfl rfl ?_)
        clear hS; intro w21 hS
        refine wnil ?_
        refine thenN ?_
        refine wseq ?_
        refine wreg ?_
        refine wl rfl (omove (v := .slice (some ⟨gW, 1, none⟩) n0 ((n0 + 1))) rfl rfl (ev (v := .slice (some ⟨gW, 1, none⟩) n0 ((n0 + 1))) rfl rfl) ?_)
        refine wl rfl (ocall rfl rfl Tryd.call17 rfl (wnbits (lent (hS.sl 7 rfl) hx.len) (by omega)) (args1 (ev rfl rfl)) ?_)
        rintro _ w22 ⟨_, _, rfl, ⟨gB, pB, nB, cB, rfl, rfl⟩, hN⟩
        refine ⟨_, rfl, ?_⟩
        replace hS := hS.news hN; clear hN
        refine wl rfl (oassign (v := .func (.func 25) #[] #[.pointer (some ⟨gB, 0, none⟩)]) rfl rfl (ev (v := .func (.func 25) #[] #[.pointer (some ⟨gB, 0, none⟩)]) rfl rfl) ?_)
        refine wnil ?_
        refine thenN ?_
        refine wseq ?_
        refine wseq ?_
        refine wreg ?_
        refine wl rfl (omove (v := .func (.func 25) #[] #[.pointer (some ⟨gB, 0, none⟩)]) rfl rfl (ev (v := .func (.func 25) #[] #[.pointer (some ⟨gB, 0, none⟩)]) rfl rfl) ?_)
        refine wl rfl (obin (u := .func (.func 25) #[] #[.pointer (some ⟨gB, 0, none⟩)]) (v := .nilFunc) (z := .bool false) rfl rfl (ev (v := .func (.func 25) #[] #[.pointer (some ⟨gB, 0, none⟩)]) rfl rfl) (evc (v := .nilFunc)) (bin_eql_nilF Tryd.runUnderlying37) ?_)
        refine wnil ?_
        refine thenN ?_
        refine wF (ev (v := .bool false) rfl rfl) ?_
        refine wskip ?_
        refine thenN ?_
        refine wseq ?_
        refine wseq ?_
        refine wreg ?_
        refine wl rfl (omove (v := .func (.func 25) #[] #[.pointer (some ⟨gB, 0, none⟩)]) rfl rfl (ev (v := .func (.func 25) #[] #[.pointer (some ⟨gB, 0, none⟩)]) rfl rfl) ?_)
        refine wnil ?_
        refine thenN ?_
        refine wblock ?_
        obtain hS := (show Sep w [.blk gB [.slice pB nB cB] 23, .row pB nB cB (lim (val xs)), .blk g16 [.int .i64 (-1)] 3, .blk g18 [.int .i64 0] 3, .rowm px nx cx (lim (val xs)), .row py ny cy (lim (val xs)), .row pz nz cz (lim (val xs)), .row (some ⟨gW, 0, none⟩) (n0 + 2) (n0 + 2) (whole xs), .blk g1 [.slice p0 n0 c0] 23, .blk g3 [.bool false] 4, .row po2 no2 co2 (lim N), .row po1 no1 co1 (lim N)] w22 from hS.pick [0, 1, 3, 2, 8, 7, 6, 9, 11, 10, 4, 5] (by decide) rfl)
        obtain hS := hS.sub (List.take_sublist 10 _)
        obtain hS := (show Sep w [.blk gB [.slice pB nB cB] 23, .row pB nB cB (lim (val xs)), .blk g16 [.int .i64 (-1)] 3, .blk g18 [.int .i64 0] 3, .rowm px nx cx (lim (val xs)), .row py ny cy (lim (val xs)), .row pz nz cz (lim (val xs)), .row (some ⟨gW, 0, none⟩) (n0 + 2) (n0 + 2) (whole xs), .blk g1 [.slice p0 n0 c0] 23, .blk g3 [.bool false] 4] w22 from hS)
        obtain ⟨FIX, hFIX⟩ : ∃ F, F = ([.rowm px nx cx (lim (val xs)), .row py ny cy (lim (val xs)), .row pz nz cz (lim (val xs)), .row (some ⟨gW, 0, none⟩) (n0 + 2) (n0 + 2) (whole xs), .blk g1 [.slice p0 n0 c0] 23, .blk g3 [.bool false] 4] : List Res) := ⟨_, rfl⟩
        have hB : nB ≤ 2097152 := by rw [(hS.sl 1 rfl).lln]; omega
        have hpw := onesFrom_up (lim (val xs)) 0
        refine wrange (T := fun (j : Nat) => Is (.int .i64 (j : Int))) (xs := onesFrom 0 (lim (val xs))) (R := [.blk gB [.slice pB nB cB] 23, .row pB nB cB (lim (val xs))]) (Rc := .blk g16 [.int .i64 (-1)] 3 :: .blk g18 [.int .i64 0] 3 :: FIX) (ev (v := .func (.func 25) #[] #[.pointer (some ⟨gB, 0, none⟩)]) rfl rfl) Tryd.call25 (bits_iter ht hB) (by rw [hFIX]; exact hS) (NFI g16 g18 FIX) (NFX g16 g18 FIX) ⟨by simp, rfl⟩ (NFA g1 g3 g16 g18 FIX) ?_ ?_ ?_ ?_
        · intro l m pre q v9 r9 Rf Rc W hpx hI hT hS
          obtain ⟨rfl, rfl⟩ := hT
          refine rreg ?_
          refine rl rfl rfl (oassign (v := .int .i64 ((q : Nat) : Int)) rfl rfl (ev rfl rfl) ?_)
          refine rnil ?_
          refine thenN ?_
          exact ⟨_, _, rfl, ⟨_, rfl, rfl, rfl, rfl, rfl, hI⟩, hS⟩
        · intro l m pre q f9 Rf R9 W hpx hA hS
          obtain ⟨fa, rfl, hfa3, hfa6, hfa17, hfa18, hp3000, rfl⟩ := hA
          have hlast := lastI_lt hpw hpx
          have hq : q ∈ onesFrom 0 (lim (val xs)) := hpx.subset (by simp)
          have hbt := bt_mem hx.lims hq
          have hq2 := mem_lt hq
          rw [length_lim] at hq2
          have h3c : W.heap[g1]? = some (.cells #[.slice p0 n0 c0] 23) := hS.holds (.blk g1 [.slice p0 n0 c0] 23) (List.mem_append_right _ (List.mem_cons_of_mem _ (List.mem_cons_of_mem _ (by rw [hFIX]; simp))))
          obtain hS := Sep.mid2 hS
          refine rblock ?_
          refine rseq ?_
          refine rseq ?_
          refine rreg ?_
          refine rl rfl rfl (omove (v := .int .i64 ((q : Nat) : Int)) rfl rfl (ev rfl rfl) ?_)
          refine rl rfl rfl (oload1 (v := .int .i64 (lastI pre)) oneI hS 0 rfl rfl (ev rfl hfa17) rfl rfl ?_)
          refine rl rfl rfl (obin (u := .int .i64 ((q : Nat) : Int)) (v := .int .i64 (lastI pre)) (z := .bool false) rfl rfl (ev rfl rfl) (ev rfl rfl) (bin_leq (decide_eq_false (by omega))) ?_)
          refine rl rfl rfl (omove (v := .bool false) rfl rfl (ev rfl rfl) ?_)
          refine rlOn (e := 114) rfl rfl rfl rfl rfl (oloadc (v := .slice p0 n0 c0) oneN rfl rfl (ev rfl hfa3) (box_cells (cs := [.slice p0 n0 c0]) h3c 0 _ rfl) ?_)
          refine rlOn (e := 114) rfl rfl rfl rfl rfl (omove (v := .int .i64 ((q : Nat) : Int)) rfl rfl (ev rfl rfl) ?_)
          refine rlOn (e := 114) rfl rfl rfl rfl rfl (ocall rfl rfl Tryd.call14 rfl (wqbit (hx.below hS.below (Nat.le_refl _)) (by omega)) (args2 (ev rfl rfl) (ev rfl rfl)) ?_)
          rintro _ W2 ⟨_, _, rfl, ⟨rfl, rfl⟩, hN⟩
          refine ⟨_, rfl, ?_⟩
          replace hS := hS.news hN; clear hN
          refine rlOn (e := 114) rfl rfl rfl rfl rfl (obin (u := .int .u64 ((bt xs q : Nat) : Int)) (v := .int .u64 1) (z := .bool false) rfl rfl (ev rfl rfl) (evc (v := .int .u64 1)) (bin_neq (neF (by rw [hbt]; rfl))) ?_)
          refine rl rfl rfl (opick (b := false) (v := .bool false) rfl rfl (ev (v := .bool false) rfl rfl) (ev (v := .bool false) rfl rfl) ?_)
          refine rnil ?_
          refine thenN ?_
          refine rF (ev rfl rfl) ?_
          refine rskip ?_
          refine thenN ?_
          refine rseq ?_
          refine rreg ?_
          refine rl rfl rfl (omove (v := .int .i64 ((q : Nat) : Int)) rfl rfl (ev rfl rfl) ?_)
          refine rl rfl rfl (ostore [.int .i64 ((q : Nat) : Int)] [.int .i64 ((q : Nat) : Int)] Tryd.sizeOf3 hS 0 rfl rfl (ev rfl hfa17) (ev (v := .int .i64 ((q : Nat) : Int)) rfl rfl) rfl rfl rfl rfl rfl rfl ?_)
          clear hS; intro W3 hS
          refine rnil ?_
          refine thenN ?_
          refine rseq ?_
          refine rreg ?_
          refine rl rfl rfl (oload1 (v := .int .i64 ((pre.length : Nat) : Int)) oneI hS 1 rfl rfl (ev rfl hfa18) rfl rfl ?_)
          refine rl rfl rfl (obin (u := .int .i64 ((pre.length : Nat) : Int)) (v := .int .i64 1) (z := .int .i64 ((pre.length + 1 : Nat) : Int)) rfl rfl (ev rfl rfl) (evc (v := .int .i64 1)) (bin_add (wrap_i64 (by omega) (by omega))) ?_)
          refine rl rfl rfl (ostore [.int .i64 ((pre.length + 1 : Nat) : Int)] [.int .i64 ((pre.length + 1 : Nat) : Int)] Tryd.sizeOf3 hS 1 rfl rfl (ev rfl hfa18) (ev (v := .int .i64 ((pre.length + 1 : Nat) : Int)) rfl rfl) rfl rfl rfl rfl rfl rfl ?_)
          clear hS; intro W4 hS
          refine rnil ?_
          refine thenN ?_
          have hl : (pre ++ [q]).length = pre.length + 1 := by simp
          have hR : (.blk g16 [.int .i64 ((q : Nat) : Int)] 3 :: .blk g18 [.int .i64 ((pre.length + 1 : Nat) : Int)] 3 :: FIX : List Res) = .blk g16 [.int .i64 (lastI (pre ++ [q]))] 3 :: .blk g18 [.int .i64 (((pre ++ [q]).length : Nat) : Int)] 3 :: FIX := by rw [lastI_app, hl]
          refine rseq ?_
          refine rreg ?_
          refine rl rfl rfl (oload1 (v := .int .i64 ((pre.length + 1 : Nat) : Int)) oneI hS 1 rfl rfl (ev rfl hfa18) rfl rfl ?_)
          by_cases h3 : pre.length = 3000
          · refine rl rfl rfl (obin (u := .int .i64 ((pre.length + 1 : Nat) : Int)) (v := .int .i64 3000) (z := .bool true) rfl rfl (ev rfl rfl) (evc (v := .int .i64 3000)) (bin_gtr (decide_eq_true (by omega))) ?_)
            refine rnil ?_
            refine thenN ?_
            refine rT (ev rfl rfl) ?_
            refine rexit ?_
            refine blkX rfl ?_
            exact ⟨_, ⟨rfl, by omega, hR⟩, Sep.mid2b hS⟩
          · refine rl rfl rfl (obin (u := .int .i64 ((pre.length + 1 : Nat) : Int)) (v := .int .i64 3000) (z := .bool false) rfl rfl (ev rfl rfl) (evc (v := .int .i64 3000)) (bin_gtr (decide_eq_false (by omega))) ?_)
            refine rnil ?_
            refine thenN ?_
            refine rF (ev rfl rfl) ?_
            refine rskip ?_
            refine blkN ?_
            exact ⟨_, ⟨by omega, hR⟩, Sep.mid2b hS⟩
        · rintro D Rc W ⟨h3, rfl⟩ hS
          subst hFIX
          refine blkN ?_
          refine thenN ?_
          refine forms_rest rfl ?_ hx hn hS ?_
          · exact ⟨rfl, rfl, rfl, rfl, rfl, rfl, rfl, rfl, trivial⟩
          · exact .inl (by rw [onesFrom_len, ones_val hx.lims])
        · rintro D c pre Rc W hpre ⟨rfl, h3, rfl⟩ hS
          subst hFIX
          refine (wexit ?_).out
          refine blkE ?_
          refine thenN ?_
          refine forms_rest rfl ?_ hx hn hS ?_
          · exact ⟨rfl, rfl, rfl, rfl, rfl, rfl, rfl, rfl, trivial⟩
          · exact .inr h3
    ·
      obtain ⟨k, rfl⟩ : ∃ k1, k = k1 + 1 := ⟨k - 1, by omega⟩
      obtain rfl : z = ((k : Nat) : Int) := by omega
      have htd := top_down (N := val xs) (k := k)
      have hts : v < 4294967296 := by rw [hv]; exact top_small (by omega)
      obtain ⟨gz, oz, hpz, hcz⟩ := (hS.sl 0 rfl).cell k (by omega)
      have hnl := lim_lt (val xs) k
      refine wl rfl (obin (u := .int .i64 (((k : Nat) : Int))) (v := .int .i64 0) (z := .bool true) rfl rfl (ev (v := .int .i64 (((k : Nat) : Int))) rfl rfl) (evc (v := .int .i64 0)) (bin_geq (decide_eq_true (by omega))) ?_)
      refine wl rfl (omove (v := .bool true) rfl rfl (ev (v := .bool true) rfl rfl) ?_)
      refine wlOn (e := 49) rfl rfl rfl rfl (omove (v := .bool true) rfl rfl (ev (v := .bool true) rfl rfl) ?_)
      refine wl rfl (opick (b := true) (v := .bool true) rfl rfl (ev (v := .bool true) rfl rfl) (ev (v := .bool true) rfl rfl) ?_)
      refine wnil ?_
      refine thenN ?_
      refine wT (ev (v := .bool true) rfl rfl) ?_
      refine wskip ?_
      refine thenN ?_
      refine wseq ?_
      refine wblock ?_
      refine wreg ?_
      refine wl rfl (omove (v := .int .u64 (((v : Nat) : Int))) rfl rfl (ev (v := .int .u64 (((v : Nat) : Int))) rfl rfl) ?_)
      refine wl rfl (obin (u := .int .u64 (((v : Nat) : Int))) (v := .int .u64 32) (z := .int .u64 (((v * 4294967296 : Nat) : Int))) rfl rfl (ev (v := .int .u64 (((v : Nat) : Int))) rfl rfl) (evc (v := .int .u64 32)) (bin_shl (c := ((v * 4294967296 : Nat) : Int)) (by omega) (shl_u64 hts)) ?_)
      refine wl rfl (omove (v := .slice pz nz cz) rfl rfl (ev (v := .slice pz nz cz) rfl rfl) ?_)
      refine wl rfl (omove (v := .int .i64 (((k : Nat) : Int))) rfl rfl (ev (v := .int .i64 (((k : Nat) : Int))) rfl rfl) ?_)
      refine wl rfl (oindex (p := pz) (g := gz) (off := oz) (m := nz) (k := k) (j := (oz + k)) rfl rfl Tryd.runUnderlying23 Tryd.sizeOf31 (ev (v := .slice pz nz cz) rfl rfl) (hpz) (ev (v := .int .i64 (((k : Nat) : Int))) rfl rfl) ((by omega)) (by omega) ?_)
      refine wl rfl (oloadc (v := .int .u32 (((nd (lim (val xs)) k : Nat) : Int))) one32 rfl rfl (ev (v := .pointer (some ⟨gz, (oz + k), none⟩)) rfl rfl) (hcz) ?_)
      refine wl rfl (oconvert (u := .int .u32 (((nd (lim (val xs)) k : Nat) : Int))) (v := .int .u64 (((nd (lim (val xs)) k : Nat) : Int))) rfl rfl (ev (v := .int .u32 (((nd (lim (val xs)) k : Nat) : Int))) rfl rfl) (convert_int Tryd.runUnderlying31 Tryd.runUnderlying24 (wrap_u64 (by omega) (by omega))) ?_)
      refine wl rfl (obin (u := .int .u64 (((v * 4294967296 : Nat) : Int))) (v := .int .u64 (((nd (lim (val xs)) k : Nat) : Int))) (z := .int .u64 (((v * 4294967296 + nd (lim (val xs)) k : Nat) : Int))) rfl rfl (ev (v := .int .u64 (((v * 4294967296 : Nat) : Int))) rfl rfl) (ev (v := .int .u64 (((nd (lim (val xs)) k : Nat) : Int))) rfl rfl) (bin_or64 hts hnl) ?_)
      refine wl rfl (oassign (v := .int .u64 (((v * 4294967296 + nd (lim (val xs)) k : Nat) : Int))) rfl rfl (ev (v := .int .u64 (((v * 4294967296 + nd (lim (val xs)) k : Nat) : Int))) rfl rfl) ?_)
      refine wnil ?_
      refine blkN ?_
      refine thenN ?_
      refine wreg ?_
      refine wl rfl (omove (v := .int .i64 (((k : Nat) : Int))) rfl rfl (ev (v := .int .i64 (((k : Nat) : Int))) rfl rfl) ?_)
      refine wl rfl (obin (u := .int .i64 (((k : Nat) : Int))) (v := .int .i64 1) (z := .int .i64 ((((k : Nat) : Int) - 1))) rfl rfl (ev (v := .int .i64 (((k : Nat) : Int))) rfl rfl) (evc (v := .int .i64 1)) (bin_sub (wrap_i64 (by omega) (by omega))) ?_)
      refine wl rfl (oassign (v := .int .i64 ((((k : Nat) : Int) - 1))) rfl rfl (ev (v := .int .i64 ((((k : Nat) : Int) - 1))) rfl rfl) ?_)
      refine wnil ?_
      refine thenN ?_
      exact ⟨k, ⟨_, _, _, act_sets (l := [(1, .int .u64 (((N : Nat) : Int))), (2, .int .i64 i), (3, .pointer (some ⟨g1, 0, none⟩)), (6, .pointer (some ⟨g3, 0, none⟩)), (7, .slice (some ⟨gW, 0, none⟩) ((n0 + 2)) ((n0 + 2))), (8, .slice (some ⟨gW, 1, none⟩) n0 ((n0 + 1))), (9, .slice px nx cx), (10, .slice py ny cy), (11, .slice pz nz cz), (12, .int .u64 (((val xs : Nat) : Int))), (13, .bool true), (14, .bool true), (15, .int .u64 (((v * 4294967296 + nd (lim (val xs)) k : Nat) : Int))), (16, .int .i64 ((((k : Nat) : Int) - 1)))]) ⟨rfl, rfl, rfl, rfl, rfl, rfl, rfl, rfl, rfl, rfl, rfl, rfl, rfl, rfl, trivial⟩, hS.pick [0, 1, 2, 3, 4, 5] (by decide) rfl, by omega, rfl, by rw [hv]; exact htd.symm⟩, by omega⟩
  ·
    have hge64 : 18446744073709551616 ≤ val xs := Nat.le_of_not_lt (fun h => hsm (ll_le (k := 2) (by omega)))
    refine wl rfl (ocall rfl rfl Tryd.call7 rfl (wuint64N (lent (hS.sl 3 rfl) hx.len) hge64) (args1 (ev rfl rfl)) ?_)
    rintro _ w9 ⟨_, _, rfl, ⟨rfl, rfl⟩, hN⟩
    refine ⟨_, rfl, ?_⟩
    replace hS := hS.news hN; clear hN
    refine wl rfl (omove (v := .tuple #[.int .u64 0, .bool false]) rfl rfl (ev (v := .tuple #[.int .u64 0, .bool false]) rfl rfl) ?_)
    refine wl rfl (oextract (vs := [.int .u64 0, .bool false]) (v := .int .u64 0) rfl rfl (ev (v := .tuple #[.int .u64 0, .bool false]) rfl rfl) rfl ?_)
    refine wl rfl (oextract (vs := [.int .u64 0, .bool false]) (v := .bool false) rfl rfl (ev (v := .tuple #[.int .u64 0, .bool false]) rfl rfl) rfl ?_)
    refine wl rfl (oassign (v := .int .u64 0) rfl rfl (ev (v := .int .u64 0) rfl rfl) ?_)
    refine wl rfl (oassign (v := .bool false) rfl rfl (ev (v := .bool false) rfl rfl) ?_)
    refine wnil ?_
    refine thenN ?_
    refine wseq ?_
    refine wreg ?_
    refine wl rfl (omove (v := .slice pz nz cz) rfl rfl (ev (v := .slice pz nz cz) rfl rfl) ?_)
    refine wl rfl (olen rfl rfl rfl Tryd.runUnderlying23 (p := pz) (k := nz) (m := cz) (ev (v := .slice pz nz cz) rfl rfl) ?_)
    refine wl rfl (obin (u := .int .i64 (((nz : Nat) : Int))) (v := .int .i64 2) (z := .bool false) rfl rfl (ev (v := .int .i64 (((nz : Nat) : Int))) rfl rfl) (evc (v := .int .i64 2)) (bin_leq (decide_eq_false (by have h1 := (hS.sl 0 rfl).lln; omega))) ?_)
    refine wl rfl (oassign (v := .bool false) rfl rfl (ev (v := .bool false) rfl rfl) ?_)
    refine wnil ?_
    refine thenN ?_
    refine wseq ?_
    refine wreg ?_
    refine wl rfl (oassign (v := .int .u64 0) rfl rfl (evc (v := .int .u64 0)) ?_)
    refine wnil ?_
    refine thenN ?_
    refine wseq ?_
    refine wseq ?_
    refine wreg ?_
    refine wl rfl (omove (v := .slice pz nz cz) rfl rfl (ev (v := .slice pz nz cz) rfl rfl) ?_)
    refine wl rfl (olen rfl rfl rfl Tryd.runUnderlying23 (p := pz) (k := nz) (m := cz) (ev (v := .slice pz nz cz) rfl rfl) ?_)
    have hzl : nz = ll (val xs) := (hS.sl 0 rfl).lln
    refine wl rfl (obin (u := .int .i64 (((nz : Nat) : Int))) (v := .int .i64 1) (z := .int .i64 ((((nz : Nat) : Int) - 1))) rfl rfl (ev (v := .int .i64 (((nz : Nat) : Int))) rfl rfl) (evc (v := .int .i64 1)) (bin_sub (wrap_i64 (by omega) (by omega))) ?_)
    refine wl rfl (oassign (v := .int .i64 ((((nz : Nat) : Int) - 1))) rfl rfl (ev (v := .int .i64 ((((nz : Nat) : Int) - 1))) rfl rfl) ?_)
    refine wnil ?_
    refine thenN ?_
    refine wblock ?_
    refine wloop (σ := Nat) (fun k a w' => ∃ (fb : Nat → Value), a = act 170 (sets fb [(1, .int .u64 (((N : Nat) : Int))), (2, .int .i64 i), (3, .pointer (some ⟨g1, 0, none⟩)), (6, .pointer (some ⟨g3, 0, none⟩)), (7, .slice (some ⟨gW, 0, none⟩) ((n0 + 2)) ((n0 + 2))), (8, .slice (some ⟨gW, 1, none⟩) n0 ((n0 + 1))), (9, .slice px nx cx), (10, .slice py ny cy), (11, .slice pz nz cz), (12, .int .u64 0), (13, .bool false), (14, .bool false), (15, .int .u64 0), (16, .int .i64 ((((nz : Nat) : Int) - 1)))]) ∧ Sep w [.row pz nz cz (lim (val xs)), .row py ny cy (lim (val xs)), .rowm px nx cx (lim (val xs)), .row (some ⟨gW, 0, none⟩) (n0 + 2) (n0 + 2) (whole xs), .blk g3 [.bool false] 4, .blk g1 [.slice p0 n0 c0] 23] w' ∧ (k = nz)) (fun k => k) (nz) ⟨_, act_sets (l := [(1, .int .u64 (((N : Nat) : Int))), (2, .int .i64 i), (3, .pointer (some ⟨g1, 0, none⟩)), (6, .pointer (some ⟨g3, 0, none⟩)), (7, .slice (some ⟨gW, 0, none⟩) ((n0 + 2)) ((n0 + 2))), (8, .slice (some ⟨gW, 1, none⟩) n0 ((n0 + 1))), (9, .slice px nx cx), (10, .slice py ny cy), (11, .slice pz nz cz), (12, .int .u64 0), (13, .bool false), (14, .bool false), (15, .int .u64 0), (16, .int .i64 ((((nz : Nat) : Int) - 1)))]) ⟨rfl, rfl, rfl, rfl, rfl, rfl, rfl, rfl, rfl, rfl, rfl, rfl, rfl, rfl, trivial⟩, hS, rfl⟩ ?_
    clear hS; rintro k _ w10 ⟨fb, rfl, hS, hk⟩
    refine wseq ?_
    refine wseq ?_
    refine wreg ?_
    refine wl rfl (omove (v := .int .i64 ((((nz : Nat) : Int) - 1))) rfl rfl (ev (v := .int .i64 ((((nz : Nat) : Int) - 1))) rfl rfl) ?_)
    refine wl rfl (obin (u := .int .i64 ((((nz : Nat) : Int) - 1))) (v := .int .i64 0) (z := .bool true) rfl rfl (ev (v := .int .i64 ((((nz : Nat) : Int) - 1))) rfl rfl) (evc (v := .int .i64 0)) (bin_geq (decide_eq_true (by omega))) ?_)
    refine wl rfl (omove (v := .bool true) rfl rfl (ev (v := .bool true) rfl rfl) ?_)
    refine wlOn (e := 49) rfl rfl rfl rfl (omove (v := .bool false) rfl rfl (ev (v := .bool false) rfl rfl) ?_)
    refine wl rfl (opick (b := true) (v := .bool false) rfl rfl (ev (v := .bool true) rfl rfl) (ev (v := .bool false) rfl rfl) ?_)
    refine wnil ?_
    refine thenN ?_
    refine wF (ev (v := .bool false) rfl rfl) ?_
    refine wexit ?_
    refine thenE ?_
    refine thenE ?_
    refine blkE ?_
    refine thenN ?_
    refine wseq ?_
    refine wseq ?_
    refine wreg ?_
    refine wl rfl (omove (v := .slice px nx cx) rfl rfl (ev (v := .slice px nx cx) rfl rfl) ?_)
    refine wl rfl (omove (v := .slice pz nz cz) rfl rfl (ev (v := .slice pz nz cz) rfl rfl) ?_)
    refine wl rfl (ocall rfl rfl Tryd.call8 rfl ((same_yes (hS.slm 2 rfl) (hS.sl 0 rfl)).mono RetB.u) (args2 (ev rfl rfl) (ev rfl rfl)) ?_)
    rintro _ w11 ⟨_, _, rfl, ⟨rfl, rfl⟩, hN⟩
    refine ⟨_, rfl, ?_⟩
    replace hS := hS.news hN; clear hN
    refine wl rfl (onot (b := true) rfl rfl (ev (v := .bool true) rfl rfl) ?_)
    refine wl rfl (omove (v := .bool false) rfl rfl (ev (v := .bool false) rfl rfl) ?_)
    refine wlOn (e := 66) rfl rfl rfl rfl (omove (v := .int .u64 (((N : Nat) : Int))) rfl rfl (ev (v := .int .u64 (((N : Nat) : Int))) rfl rfl) ?_)
    refine wlOn (e := 66) rfl rfl rfl rfl (ocall rfl rfl Tryd.call9 rfl ((of_any rfl (by omega)).mono RetN.u) (args1 (ev rfl rfl)) ?_)
    rintro _ w12 ⟨_, _, rfl, ⟨po1, no1, co1, rfl, rfl⟩, hN⟩
    refine ⟨_, rfl, ?_⟩
    replace hS := hS.news hN; clear hN
    refine wlOn (e := 66) rfl rfl rfl rfl (omove (v := .int .u64 (((N : Nat) : Int))) rfl rfl (ev (v := .int .u64 (((N : Nat) : Int))) rfl rfl) ?_)
    refine wlOn (e := 66) rfl rfl rfl rfl (ocall rfl rfl Tryd.call10 rfl ((rof_any rfl (by omega)).mono RetN.u) (args1 (ev rfl rfl)) ?_)
    rintro _ w13 ⟨_, _, rfl, ⟨po2, no2, co2, rfl, rfl⟩, hN⟩
    refine ⟨_, rfl, ?_⟩
    replace hS := hS.news hN; clear hN
    refine wlOn (e := 66) rfl rfl rfl rfl (ocall rfl rfl Tryd.call8 rfl ((same_yes (hS.sl 1 rfl) (hS.sl 0 rfl)).mono RetB.u) (args2 (ev rfl rfl) (ev rfl rfl)) ?_)
    rintro _ w14 ⟨_, _, rfl, ⟨rfl, rfl⟩, hN⟩
    refine ⟨_, rfl, ?_⟩
    replace hS := hS.news hN; clear hN
    refine wlOn (e := 66) rfl rfl rfl rfl (onot (b := true) rfl rfl (ev (v := .bool true) rfl rfl) ?_)
    refine wl rfl (opick (b := false) (v := .bool false) rfl rfl (ev (v := .bool false) rfl rfl) (ev (v := .bool false) rfl rfl) ?_)
    refine wl rfl (omove (v := .bool false) rfl rfl (ev (v := .bool false) rfl rfl) ?_)
    refine wlOn (e := 74) rfl rfl rfl rfl (omove (v := .bool false) rfl rfl (ev (v := .bool false) rfl rfl) ?_)
    refine wlOn (e := 74) rfl rfl rfl rfl (omove (v := .bool false) rfl rfl (ev (v := .bool false) rfl rfl) ?_)
    refine wlOn (e := 74) rfl rfl rfl rfl (obin (u := .bool false) (v := .bool false) (z := .bool false) rfl rfl (ev (v := .bool false) rfl rfl) (ev (v := .bool false) rfl rfl) (bin_neqB Tryd.underlying4 (rfl)) ?_)
    refine wl rfl (opick (b := false) (v := .bool false) rfl rfl (ev (v := .bool false) rfl rfl) (ev (v := .bool false) rfl rfl) ?_)
    refine wl rfl (omove (v := .bool false) rfl rfl (ev (v := .bool false) rfl rfl) ?_)
    refine wlOn (e := 79) rfl rfl rfl rfl (omove (v := .int .u64 0) rfl rfl (ev (v := .int .u64 0) rfl rfl) ?_)
    refine wlOn (e := 79) rfl rfl rfl rfl (omove (v := .int .u64 0) rfl rfl (ev (v := .int .u64 0) rfl rfl) ?_)
    refine wlOn (e := 79) rfl rfl rfl rfl (obin (u := .int .u64 0) (v := .int .u64 0) (z := .bool false) rfl rfl (ev (v := .int .u64 0) rfl rfl) (ev (v := .int .u64 0) rfl rfl) (bin_neq (by decide)) ?_)
    refine wl rfl (opick (b := false) (v := .bool false) rfl rfl (ev (v := .bool false) rfl rfl) (ev (v := .bool false) rfl rfl) ?_)
    refine wnil ?_
    refine thenN ?_
    refine wF (ev (v := .bool false) rfl rfl) ?_
    refine wskip ?_
    refine thenN ?_
    refine wseq ?_
    refine wseq ?_
    refine wstage 21 [84, 85, 86, 87, 88, 89, 90, 91, 92, 93, 94, 95, 96, 97, 98, 99, 100, 101, 102, 103, 104] [[], [0], [], [2, 0, 1], [1, 3, 0, 2], [4, 0, 1, 2, 3], [5, 0, 1, 2, 3, 4], [5, 0, 1, 2, 3, 4], [5, 6, 7, 0, 1, 2, 3, 4], [5, 0, 1, 2, 3, 4], [5, 0, 1, 2, 3, 4], [5, 9, 10, 0, 1, 2, 3, 4, 6, 7, 8], [5, 8, 11, 0, 1, 2, 3, 4, 6, 7, 9, 10], [5, 12, 0, 1, 2, 3, 4, 6, 7, 8, 9, 10, 11], [13, 0, 1, 2, 3, 4, 5, 6, 7, 8, 9, 10, 11, 12], [14, 0, 1, 2, 3, 4, 5, 6, 7, 8, 9, 10, 11, 12, 13], [14, 15, 0, 1, 2, 3, 4, 5, 6, 7, 8, 9, 10, 11, 12, 13], [14, 0, 1, 2, 3, 4, 5, 6, 7, 8, 9, 10, 11, 12, 13], [14, 17, 0, 1, 2, 3, 4, 5, 6, 7, 8, 9, 10, 11, 12, 13, 15, 16], [14, 16, 18, 0, 1, 2, 3, 4, 5, 6, 7, 8, 9, 10, 11, 12, 13, 15, 17], [14, 19, 0, 1, 2, 3, 4, 5, 6, 7, 8, 9, 10, 11, 12, 13, 15, 16, 17, 18]] [[], [], [], [], [], [], [], [], [], [], [], [], [], [], [], [], [], [], [], [], []] [] [] (fun i9 => ([fun _ => Is (.slice (some ⟨gW, 1, none⟩) n0 ((n0 + 1))), fun _ => Is (.int .i64 (((blen (val xs) : Nat) : Int))), fun _ => Is (.slice p0 n0 c0), fun _ => Is (.int .i64 (((blen (val xs) : Nat) : Int))), fun _ => Is (.bool false), fun _ => Is (.bool false), fun _ => Is (.slice (some ⟨gW, 1, none⟩) n0 ((n0 + 1))), fun _ => Is (.int .i64 i), fun _ => Is (.int .u64 (((btI xs i : Nat) : Int))), fun _ => Is (.slice p0 n0 c0), fun _ => Is (.int .i64 i), fun _ => Is (.int .u64 (((btI xs i : Nat) : Int))), fun _ => Is (.bool false), fun _ => Is (.bool false), fun _ => Is (.bool false), fun _ => Is (.slice (some ⟨gW, 1, none⟩) n0 ((n0 + 1))), fun _ => Is (.int .i64 (((T : Nat) : Int))), fun _ => Is (.slice p0 n0 c0), fun _ => Is (.int .i64 (((T : Nat) : Int))), fun _ => Is (.bool false), fun _ => Is (.bool false)] : List (List Value → Tell)).getD i9 (fun _ _ _ => False)) (heldNil) (fun d _ _ _ _ h => (by cases d <;> exact h)) (by kernel_rfl) (by kernel_rfl) (by kernel_rfl) hS ?_ ?_
    ·
      refine stepsCons rfl ?_ ?_
      · intro Q f' w' ρ S ho hT hS hB
        exact .inl ⟨want_none rfl, omove (v := .slice (some ⟨gW, 1, none⟩) n0 ((n0 + 1))) rfl rfl (ev (v := .slice (some ⟨gW, 1, none⟩) n0 ((n0 + 1))) rfl (ho 8 rfl)) ⟨_, _, rfl, isI, New.same _⟩⟩
      refine stepsCons rfl ?_ ?_
      · intro Q f' w' ρ S ho hT hS hB
        obtain ⟨hv0, hr0⟩ := (hT 0 84 rfl rfl : (Is (.slice (some ⟨gW, 1, none⟩) n0 ((n0 + 1)))) (f' 84) (ρ 0))
        obtain hS := hS.flat1 hr0
        refine .inl ⟨want_none rfl, ocall rfl rfl Tryd.call11 rfl ((len_any (lent (hS.sl 5 rfl) hx.len) (by omega)).mono RetLen.u) (args1 (ev rfl hv0)) ?_⟩
        rintro _ w9 ⟨_, _, rfl, hTT, hN⟩
        exact ⟨_, rfl, _, _, rfl, hTT, hN⟩
      refine stepsCons rfl ?_ ?_
      · intro Q f' w' ρ S ho hT hS hB
        exact .inl ⟨want_none rfl, oload1 (v := .slice p0 n0 c0) oneN hS 7 rfl rfl (ev rfl (ho 3 rfl)) rfl rfl ⟨_, _, rfl, isI, New.same _⟩⟩
      refine stepsCons rfl ?_ ?_
      · intro Q f' w' ρ S ho hT hS hB
        obtain ⟨hv2, hr2⟩ := (hT 2 86 rfl rfl : (Is (.slice p0 n0 c0)) (f' 86) (ρ 2))
        obtain hS := hS.flat1 hr2
        refine .inl ⟨want_none rfl, ocall rfl rfl Tryd.call12 rfl ((rlen_any (hx.below hS.below (Nat.le_refl _)) (by omega)).mono RetInt.u) (args1 (ev rfl hv2)) ?_⟩
        rintro _ w9 ⟨_, _, rfl, hTT, hN⟩
        exact ⟨_, rfl, _, _, rfl, hTT, hN⟩
      refine stepsCons rfl ?_ ?_
      · intro Q f' w' ρ S ho hT hS hB
        obtain ⟨hv1, hr1⟩ := (hT 1 85 rfl rfl : (Is (.int .i64 (((blen (val xs) : Nat) : Int)))) (f' 85) (ρ 1))
        obtain ⟨hv3, hr3⟩ := (hT 3 87 rfl rfl : (Is (.int .i64 (((blen (val xs) : Nat) : Int)))) (f' 87) (ρ 3))
        obtain hS := hS.flat2 hr1 hr3
        exact .inl ⟨want_none rfl, obin (u := .int .i64 (((blen (val xs) : Nat) : Int))) (v := .int .i64 (((blen (val xs) : Nat) : Int))) (z := .bool false) rfl rfl (ev (v := .int .i64 (((blen (val xs) : Nat) : Int))) rfl hv1) (ev (v := .int .i64 (((blen (val xs) : Nat) : Int))) rfl hv3) (bin_neq (neF rfl)) ⟨_, _, rfl, isI, New.same _⟩⟩
      refine stepsCons rfl ?_ ?_
      · intro Q f' w' ρ S ho hT hS hB
        obtain ⟨hv4, hr4⟩ := (hT 4 88 rfl rfl : (Is (.bool false)) (f' 88) (ρ 4))
        obtain hS := hS.flat1 hr4
        exact .inl ⟨want_none rfl, omove (v := .bool false) rfl rfl (ev (v := .bool false) rfl hv4) ⟨_, _, rfl, isI, New.same _⟩⟩
      refine stepsCons rfl ?_ ?_
      · intro Q f' w' ρ S ho hT hS hB
        obtain ⟨hv5, hr5⟩ := (hT 5 89 rfl rfl : (Is (.bool false)) (f' 89) (ρ 5))
        obtain hS := hS.flat1 hr5
        exact .inl ⟨want_on (e := 89) rfl rfl rfl hv5, omove (v := .slice (some ⟨gW, 1, none⟩) n0 ((n0 + 1))) rfl rfl (ev (v := .slice (some ⟨gW, 1, none⟩) n0 ((n0 + 1))) rfl (ho 8 rfl)) ⟨_, _, rfl, isI, New.same _⟩⟩
      refine stepsCons rfl ?_ ?_
      · intro Q f' w' ρ S ho hT hS hB
        obtain ⟨hv5, hr5⟩ := (hT 5 89 rfl rfl : (Is (.bool false)) (f' 89) (ρ 5))
        obtain hS := hS.flat1 hr5
        exact .inl ⟨want_on (e := 89) rfl rfl rfl hv5, omove (v := .int .i64 i) rfl rfl (ev (v := .int .i64 i) rfl (ho 2 rfl)) ⟨_, _, rfl, isI, New.same _⟩⟩
      refine stepsCons rfl ?_ ?_
      · intro Q f' w' ρ S ho hT hS hB
        obtain ⟨hv5, hr5⟩ := (hT 5 89 rfl rfl : (Is (.bool false)) (f' 89) (ρ 5))
        obtain ⟨hv6, hr6⟩ := (hT 6 90 rfl rfl : (Is (.slice (some ⟨gW, 1, none⟩) n0 ((n0 + 1)))) (f' 90) (ρ 6))
        obtain ⟨hv7, hr7⟩ := (hT 7 91 rfl rfl : (Is (.int .i64 i)) (f' 91) (ρ 7))
        obtain hS := hS.flat3 hr5 hr6 hr7
        refine .inl ⟨want_on (e := 89) rfl rfl rfl hv5, ocall rfl rfl Tryd.call13 rfl (wnbitI (lent (hS.sl 5 rfl) hx.len) hi63) (args2 (ev rfl hv6) (ev rfl hv7)) ?_⟩
        rintro _ w9 ⟨_, _, rfl, hTT, hN⟩
        exact ⟨_, rfl, _, _, rfl, hTT, hN⟩
      refine stepsCons rfl ?_ ?_
      · intro Q f' w' ρ S ho hT hS hB
        obtain ⟨hv5, hr5⟩ := (hT 5 89 rfl rfl : (Is (.bool false)) (f' 89) (ρ 5))
        obtain hS := hS.flat1 hr5
        exact .inl ⟨want_on (e := 89) rfl rfl rfl hv5, oload1 (v := .slice p0 n0 c0) oneN hS 7 rfl rfl (ev rfl (ho 3 rfl)) rfl rfl ⟨_, _, rfl, isI, New.same _⟩⟩
      refine stepsCons rfl ?_ ?_
      · intro Q f' w' ρ S ho hT hS hB
        obtain ⟨hv5, hr5⟩ := (hT 5 89 rfl rfl : (Is (.bool false)) (f' 89) (ρ 5))
        obtain hS := hS.flat1 hr5
        exact .inl ⟨want_on (e := 89) rfl rfl rfl hv5, omove (v := .int .i64 i) rfl rfl (ev (v := .int .i64 i) rfl (ho 2 rfl)) ⟨_, _, rfl, isI, New.same _⟩⟩
      refine stepsCons rfl ?_ ?_
      · intro Q f' w' ρ S ho hT hS hB
        obtain ⟨hv5, hr5⟩ := (hT 5 89 rfl rfl : (Is (.bool false)) (f' 89) (ρ 5))
        obtain ⟨hv9, hr9⟩ := (hT 9 93 rfl rfl : (Is (.slice p0 n0 c0)) (f' 93) (ρ 9))
        obtain ⟨hv10, hr10⟩ := (hT 10 94 rfl rfl : (Is (.int .i64 i)) (f' 94) (ρ 10))
        obtain hS := hS.flat3 hr5 hr9 hr10
        refine .inl ⟨want_on (e := 89) rfl rfl rfl hv5, ocall rfl rfl Tryd.call14 rfl (wqbitI (hx.below hS.below (Nat.le_refl _)) hi63) (args2 (ev rfl hv9) (ev rfl hv10)) ?_⟩
        rintro _ w9 ⟨_, _, rfl, hTT, hN⟩
        exact ⟨_, rfl, _, _, rfl, hTT, hN⟩
      refine stepsCons rfl ?_ ?_
      · intro Q f' w' ρ S ho hT hS hB
        obtain ⟨hv5, hr5⟩ := (hT 5 89 rfl rfl : (Is (.bool false)) (f' 89) (ρ 5))
        obtain ⟨hv8, hr8⟩ := (hT 8 92 rfl rfl : (Is (.int .u64 (((btI xs i : Nat) : Int)))) (f' 92) (ρ 8))
        obtain ⟨hv11, hr11⟩ := (hT 11 95 rfl rfl : (Is (.int .u64 (((btI xs i : Nat) : Int)))) (f' 95) (ρ 11))
        obtain hS := hS.flat3 hr5 hr8 hr11
        exact .inl ⟨want_on (e := 89) rfl rfl rfl hv5, obin (u := .int .u64 (((btI xs i : Nat) : Int))) (v := .int .u64 (((btI xs i : Nat) : Int))) (z := .bool false) rfl rfl (ev (v := .int .u64 (((btI xs i : Nat) : Int))) rfl hv8) (ev (v := .int .u64 (((btI xs i : Nat) : Int))) rfl hv11) (bin_neq (neF rfl)) ⟨_, _, rfl, isI, New.same _⟩⟩
      refine stepsCons rfl ?_ ?_
      · intro Q f' w' ρ S ho hT hS hB
        obtain ⟨hv5, hr5⟩ := (hT 5 89 rfl rfl : (Is (.bool false)) (f' 89) (ρ 5))
        obtain ⟨hv12, hr12⟩ := (hT 12 96 rfl rfl : (Is (.bool false)) (f' 96) (ρ 12))
        obtain hS := hS.flat2 hr5 hr12
        exact .inl ⟨want_none rfl, opick (b := false) (v := .bool false) rfl rfl (ev (v := .bool false) rfl hv5) (ev (v := .bool false) rfl hv12) ⟨_, _, rfl, isI, New.same _⟩⟩
      refine stepsCons rfl ?_ ?_
      · intro Q f' w' ρ S ho hT hS hB
        obtain ⟨hv13, hr13⟩ := (hT 13 97 rfl rfl : (Is (.bool false)) (f' 97) (ρ 13))
        obtain hS := hS.flat1 hr13
        exact .inl ⟨want_none rfl, omove (v := .bool false) rfl rfl (ev (v := .bool false) rfl hv13) ⟨_, _, rfl, isI, New.same _⟩⟩
      refine stepsCons rfl ?_ ?_
      · intro Q f' w' ρ S ho hT hS hB
        obtain ⟨hv14, hr14⟩ := (hT 14 98 rfl rfl : (Is (.bool false)) (f' 98) (ρ 14))
        obtain hS := hS.flat1 hr14
        exact .inl ⟨want_on (e := 98) rfl rfl rfl hv14, omove (v := .slice (some ⟨gW, 1, none⟩) n0 ((n0 + 1))) rfl rfl (ev (v := .slice (some ⟨gW, 1, none⟩) n0 ((n0 + 1))) rfl (ho 8 rfl)) ⟨_, _, rfl, isI, New.same _⟩⟩
      refine stepsCons rfl ?_ ?_
      · intro Q f' w' ρ S ho hT hS hB
        obtain ⟨hv14, hr14⟩ := (hT 14 98 rfl rfl : (Is (.bool false)) (f' 98) (ρ 14))
        obtain ⟨hv15, hr15⟩ := (hT 15 99 rfl rfl : (Is (.slice (some ⟨gW, 1, none⟩) n0 ((n0 + 1)))) (f' 99) (ρ 15))
        obtain hS := hS.flat2 hr14 hr15
        refine .inl ⟨want_on (e := 98) rfl rfl rfl hv14, ocall rfl rfl Tryd.call15 rfl (htr1 _ _ _ _ (lent (hS.sl 5 rfl) hx.len) (fun j v hj => tab_keep hS (ht j v hj))) (args1 (ev rfl hv15)) ?_⟩
        rintro _ w9 ⟨_, _, rfl, hTT, hN⟩
        exact ⟨_, rfl, _, _, rfl, hTT, hN⟩
      refine stepsCons rfl ?_ ?_
      · intro Q f' w' ρ S ho hT hS hB
        obtain ⟨hv14, hr14⟩ := (hT 14 98 rfl rfl : (Is (.bool false)) (f' 98) (ρ 14))
        obtain hS := hS.flat1 hr14
        exact .inl ⟨want_on (e := 98) rfl rfl rfl hv14, oload1 (v := .slice p0 n0 c0) oneN hS 7 rfl rfl (ev rfl (ho 3 rfl)) rfl rfl ⟨_, _, rfl, isI, New.same _⟩⟩
      refine stepsCons rfl ?_ ?_
      · intro Q f' w' ρ S ho hT hS hB
        obtain ⟨hv14, hr14⟩ := (hT 14 98 rfl rfl : (Is (.bool false)) (f' 98) (ρ 14))
        obtain ⟨hv17, hr17⟩ := (hT 17 101 rfl rfl : (Is (.slice p0 n0 c0)) (f' 101) (ρ 17))
        obtain hS := hS.flat2 hr14 hr17
        refine .inl ⟨want_on (e := 98) rfl rfl rfl hv14, ocall rfl rfl Tryd.call16 rfl (htr2 _ _ _ _ (hx.below hS.below (Nat.le_refl _))) (args1 (ev rfl hv17)) ?_⟩
        rintro _ w9 ⟨_, _, rfl, hTT, hN⟩
        exact ⟨_, rfl, _, _, rfl, hTT, hN⟩
      refine stepsCons rfl ?_ ?_
      · intro Q f' w' ρ S ho hT hS hB
        obtain ⟨hv14, hr14⟩ := (hT 14 98 rfl rfl : (Is (.bool false)) (f' 98) (ρ 14))
        obtain ⟨hv16, hr16⟩ := (hT 16 100 rfl rfl : (Is (.int .i64 (((T : Nat) : Int)))) (f' 100) (ρ 16))
        obtain ⟨hv18, hr18⟩ := (hT 18 102 rfl rfl : (Is (.int .i64 (((T : Nat) : Int)))) (f' 102) (ρ 18))
        obtain hS := hS.flat3 hr14 hr16 hr18
        exact .inl ⟨want_on (e := 98) rfl rfl rfl hv14, obin (u := .int .i64 (((T : Nat) : Int))) (v := .int .i64 (((T : Nat) : Int))) (z := .bool false) rfl rfl (ev (v := .int .i64 (((T : Nat) : Int))) rfl hv16) (ev (v := .int .i64 (((T : Nat) : Int))) rfl hv18) (bin_neq (neF rfl)) ⟨_, _, rfl, isI, New.same _⟩⟩
      refine stepsCons rfl ?_ ?_
      · intro Q f' w' ρ S ho hT hS hB
        obtain ⟨hv14, hr14⟩ := (hT 14 98 rfl rfl : (Is (.bool false)) (f' 98) (ρ 14))
        obtain ⟨hv19, hr19⟩ := (hT 19 103 rfl rfl : (Is (.bool false)) (f' 103) (ρ 19))
        obtain hS := hS.flat2 hr14 hr19
        exact .inl ⟨want_none rfl, opick (b := false) (v := .bool false) rfl rfl (ev (v := .bool false) rfl hv14) (ev (v := .bool false) rfl hv19) ⟨_, _, rfl, isI, New.same _⟩⟩
      exact stepsNil
    ·
      intro vs ρ w15 f' hf hT hS
      obtain ⟨hv0, hr0⟩ := (hT 0 (by decide) : (Is (.slice (some ⟨gW, 1, none⟩) n0 ((n0 + 1)))) (vs 0) (ρ 0))
      obtain ⟨hv1, hr1⟩ := (hT 1 (by decide) : (Is (.int .i64 (((blen (val xs) : Nat) : Int)))) (vs 1) (ρ 1))
      obtain ⟨hv2, hr2⟩ := (hT 2 (by decide) : (Is (.slice p0 n0 c0)) (vs 2) (ρ 2))
      obtain ⟨hv3, hr3⟩ := (hT 3 (by decide) : (Is (.int .i64 (((blen (val xs) : Nat) : Int)))) (vs 3) (ρ 3))
      obtain ⟨hv4, hr4⟩ := (hT 4 (by decide) : (Is (.bool false)) (vs 4) (ρ 4))
      obtain ⟨hv5, hr5⟩ := (hT 5 (by decide) : (Is (.bool false)) (vs 5) (ρ 5))
      obtain ⟨hv6, hr6⟩ := (hT 6 (by decide) : (Is (.slice (some ⟨gW, 1, none⟩) n0 ((n0 + 1)))) (vs 6) (ρ 6))
      obtain ⟨hv7, hr7⟩ := (hT 7 (by decide) : (Is (.int .i64 i)) (vs 7) (ρ 7))
      obtain ⟨hv8, hr8⟩ := (hT 8 (by decide) : (Is (.int .u64 (((btI xs i : Nat) : Int)))) (vs 8) (ρ 8))
      obtain ⟨hv9, hr9⟩ := (hT 9 (by decide) : (Is (.slice p0 n0 c0)) (vs 9) (ρ 9))
      obtain ⟨hv10, hr10⟩ := (hT 10 (by decide) : (Is (.int .i64 i)) (vs 10) (ρ 10))
      obtain ⟨hv11, hr11⟩ := (hT 11 (by decide) : (Is (.int .u64 (((btI xs i : Nat) : Int)))) (vs 11) (ρ 11))
      obtain ⟨hv12, hr12⟩ := (hT 12 (by decide) : (Is (.bool false)) (vs 12) (ρ 12))
      obtain ⟨hv13, hr13⟩ := (hT 13 (by decide) : (Is (.bool false)) (vs 13) (ρ 13))
      obtain ⟨hv14, hr14⟩ := (hT 14 (by decide) : (Is (.bool false)) (vs 14) (ρ 14))
      obtain ⟨hv15, hr15⟩ := (hT 15 (by decide) : (Is (.slice (some ⟨gW, 1, none⟩) n0 ((n0 + 1)))) (vs 15) (ρ 15))
      obtain ⟨hv16, hr16⟩ := (hT 16 (by decide) : (Is (.int .i64 (((T : Nat) : Int)))) (vs 16) (ρ 16))
      obtain ⟨hv17, hr17⟩ := (hT 17 (by decide) : (Is (.slice p0 n0 c0)) (vs 17) (ρ 17))
      obtain ⟨hv18, hr18⟩ := (hT 18 (by decide) : (Is (.int .i64 (((T : Nat) : Int)))) (vs 18) (ρ 18))
      obtain ⟨hv19, hr19⟩ := (hT 19 (by decide) : (Is (.bool false)) (vs 19) (ρ 19))
      obtain ⟨hv20, hr20⟩ := (hT 20 (by decide) : (Is (.bool false)) (vs 20) (ρ 20))
      simp only [pool, if_true, hr0, hr1, hr2, hr3, hr4, hr5, hr6, hr7, hr8, hr9, hr10, hr11, hr12, hr13, hr14, hr15, hr16, hr17, hr18, hr19, hr20, List.nil_append, List.cons_append, List.append_nil] at hS
      simp only [layf, hv0, hv1, hv2, hv3, hv4, hv5, hv6, hv7, hv8, hv9, hv10, hv11, hv12, hv13, hv14, hv15, hv16, hv17, hv18, hv19, hv20] at hf
      subst hf; clear hT hv0 hv1 hv2 hv3 hv4 hv5 hv6 hv7 hv8 hv9 hv10 hv11 hv12 hv13 hv14 hv15 hv16 hv17 hv18 hv19 hv20 hr0 hr1 hr2 hr3 hr4 hr5 hr6 hr7 hr8 hr9 hr10 hr11 hr12 hr13 hr14 hr15 hr16 hr17 hr18 hr19 hr20
      refine wdone rfl ?_
      refine thenN ?_
      refine wF (ev (v := .bool false) rfl rfl) ?_
      refine wskip ?_
      refine thenN ?_
      refine wseq ?_
      refine wreg ?_
      refine wl rfl (oalloc [.int .i64 0] hS rfl rfl Tryd.zeroValue3 rfl ?_)
      clear hS; intro g16 w17 hS
      refine wl rfl (oalloc [.int .i64 0] hS rfl rfl Tryd.zeroValue3 rfl ?_)
      clear hS; intro g18 w19 hS
      refine wl rfl (ostore [.int .i64 (-1)] [.int .i64 (-1)] Tryd.sizeOf3 hS 1 rfl rfl (ev rfl rfl) (evc (v := .int .i64 (-1))) rfl rfl rfl rfl rfl rfl ?_)
      clear hS; intro w20 hS
      refine wl rfl (ostore [.int .i64 0] [.int .i64 0] Tryd.sizeOf3 hS 0 rfl rfl (ev rfl rfl) (evc (v := .int .i64 0)) rfl rfl rfl rfl rfl rfl ?_)
      clear hS; intro w21 hS
      refine wnil ?_
      refine thenN ?_
      refine wseq ?_
      refine wreg ?_
      refine wl rfl (omove (v := .slice (some ⟨gW, 1, none⟩) n0 ((n0 + 1))) rfl rfl (ev (v := .slice (some ⟨gW, 1, none⟩) n0 ((n0 + 1))) rfl rfl) ?_)
      refine wl rfl (ocall rfl rfl Tryd.call17 rfl (wnbits (lent (hS.sl 7 rfl) hx.len) (by omega)) (args1 (ev rfl rfl)) ?_)
      rintro _ w22 ⟨_, _, rfl, ⟨gB, pB, nB, cB, rfl, rfl⟩, hN⟩
      refine ⟨_, rfl, ?_⟩
      replace hS := hS.news hN; clear hN
      refine wl rfl (oassign (v := .func (.func 25) #[] #[.pointer (some ⟨gB, 0, none⟩)]) rfl rfl (ev (v := .func (.func 25) #[] #[.pointer (some ⟨gB, 0, none⟩)]) rfl rfl) ?_)
      refine wnil ?_
      refine thenN ?_
      refine wseq ?_
      refine wseq ?_
      refine wreg ?_
      refine wl rfl (omove (v := .func (.func 25) #[] #[.pointer (some ⟨gB, 0, none⟩)]) rfl rfl (ev (v := .func (.func 25) #[] #[.pointer (some ⟨gB, 0, none⟩)]) rfl rfl) ?_)
      refine wl rfl (obin (u := .func (.func 25) #[] #[.pointer (some ⟨gB, 0, none⟩)]) (v := .nilFunc) (z := .bool false) rfl rfl (ev (v := .func (.func 25) #[] #[.pointer (some ⟨gB, 0, none⟩)]) rfl rfl) (evc (v := .nilFunc)) (bin_eql_nilF Tryd.runUnderlying37) ?_)
      refine wnil ?_
      refine thenN ?_
      refine wF (ev (v := .bool false) rfl rfl) ?_
      refine wskip ?_
      refine thenN ?_
      refine wseq ?_
      refine wseq ?_
      refine wreg ?_
      refine wl rfl (omove (v := .func (.func 25) #[] #[.pointer (some ⟨gB, 0, none⟩)]) rfl rfl (ev (v := .func (.func 25) #[] #[.pointer (some ⟨gB, 0, none⟩)]) rfl rfl) ?_)
      refine wnil ?_
      refine thenN ?_
      refine wblock ?_
      obtain hS := (show Sep w [.blk gB [.slice pB nB cB] 23, .row pB nB cB (lim (val xs)), .blk g16 [.int .i64 (-1)] 3, .blk g18 [.int .i64 0] 3, .rowm px nx cx (lim (val xs)), .row py ny cy (lim (val xs)), .row pz nz cz (lim (val xs)), .row (some ⟨gW, 0, none⟩) (n0 + 2) (n0 + 2) (whole xs), .blk g1 [.slice p0 n0 c0] 23, .blk g3 [.bool false] 4, .row po2 no2 co2 (lim N), .row po1 no1 co1 (lim N)] w22 from hS.pick [0, 1, 3, 2, 8, 7, 6, 9, 11, 10, 4, 5] (by decide) rfl)
      obtain hS := hS.sub (List.take_sublist 10 _)
      obtain hS := (show Sep w [.blk gB [.slice pB nB cB] 23, .row pB nB cB (lim (val xs)), .blk g16 [.int .i64 (-1)] 3, .blk g18 [.int .i64 0] 3, .rowm px nx cx (lim (val xs)), .row py ny cy (lim (val xs)), .row pz nz cz (lim (val xs)), .row (some ⟨gW, 0, none⟩) (n0 + 2) (n0 + 2) (whole xs), .blk g1 [.slice p0 n0 c0] 23, .blk g3 [.bool false] 4] w22 from hS)
      obtain ⟨FIX, hFIX⟩ : ∃ F, F = ([.rowm px nx cx (lim (val xs)), .row py ny cy (lim (val xs)), .row pz nz cz (lim (val xs)), .row (some ⟨gW, 0, none⟩) (n0 + 2) (n0 + 2) (whole xs), .blk g1 [.slice p0 n0 c0] 23, .blk g3 [.bool false] 4] : List Res) := ⟨_, rfl⟩
      have hB : nB ≤ 2097152 := by rw [(hS.sl 1 rfl).lln]; omega
      have hpw := onesFrom_up (lim (val xs)) 0
      refine wrange (T := fun (j : Nat) => Is (.int .i64 (j : Int))) (xs := onesFrom 0 (lim (val xs))) (R := [.blk gB [.slice pB nB cB] 23, .row pB nB cB (lim (val xs))]) (Rc := .blk g16 [.int .i64 (-1)] 3 :: .blk g18 [.int .i64 0] 3 :: FIX) (ev (v := .func (.func 25) #[] #[.pointer (some ⟨gB, 0, none⟩)]) rfl rfl) Tryd.call25 (bits_iter ht hB) (by rw [hFIX]; exact hS) (NFI g16 g18 FIX) (NFX g16 g18 FIX) ⟨by simp, rfl⟩ (NFA g1 g3 g16 g18 FIX) ?_ ?_ ?_ ?_
      · intro l m pre q v9 r9 Rf Rc W hpx hI hT hS
        obtain ⟨rfl, rfl⟩ := hT
        refine rreg ?_
        refine rl rfl rfl (oassign (v := .int .i64 ((q : Nat) : Int)) rfl rfl (ev rfl rfl) ?_)
        refine rnil ?_
        refine thenN ?_
        exact ⟨_, _, rfl, ⟨_, rfl, rfl, rfl, rfl, rfl, hI⟩, hS⟩
      · intro l m pre q f9 Rf R9 W hpx hA hS
        obtain ⟨fa, rfl, hfa3, hfa6, hfa17, hfa18, hp3000, rfl⟩ := hA
        have hlast := lastI_lt hpw hpx
        have hq : q ∈ onesFrom 0 (lim (val xs)) := hpx.subset (by simp)
        have hbt := bt_mem hx.lims hq
        have hq2 := mem_lt hq
        rw [length_lim] at hq2
        have h3c : W.heap[g1]? = some (.cells #[.slice p0 n0 c0] 23) := hS.holds (.blk g1 [.slice p0 n0 c0] 23) (List.mem_append_right _ (List.mem_cons_of_mem _ (List.mem_cons_of_mem _ (by rw [hFIX]; simp))))
        obtain hS := Sep.mid2 hS
        refine rblock ?_
        refine rseq ?_
        refine rseq ?_
        refine rreg ?_
        refine rl rfl rfl (omove (v := .int .i64 ((q : Nat) : Int)) rfl rfl (ev rfl rfl) ?_)
        refine rl rfl rfl (oload1 (v := .int .i64 (lastI pre)) oneI hS 0 rfl rfl (ev rfl hfa17) rfl rfl ?_)
        refine rl rfl rfl (obin (u := .int .i64 ((q : Nat) : Int)) (v := .int .i64 (lastI pre)) (z := .bool false) rfl rfl (ev rfl rfl) (ev rfl rfl) (bin_leq (decide_eq_false (by omega))) ?_)
        refine rl rfl rfl (omove (v := .bool false) rfl rfl (ev rfl rfl) ?_)
        refine rlOn (e := 114) rfl rfl rfl rfl rfl (oloadc (v := .slice p0 n0 c0) oneN rfl rfl (ev rfl hfa3) (box_cells (cs := [.slice p0 n0 c0]) h3c 0 _ rfl) ?_)
        refine rlOn (e := 114) rfl rfl rfl rfl rfl (omove (v := .int .i64 ((q : Nat) : Int)) rfl rfl (ev rfl rfl) ?_)
        refine rlOn (e := 114) rfl rfl rfl rfl rfl (ocall rfl rfl Tryd.call14 rfl (wqbit (hx.below hS.below (Nat.le_refl _)) (by omega)) (args2 (ev rfl rfl) (ev rfl rfl)) ?_)
        rintro _ W2 ⟨_, _, rfl, ⟨rfl, rfl⟩, hN⟩
        refine ⟨_, rfl, ?_⟩
        replace hS := hS.news hN; clear hN
        refine rlOn (e := 114) rfl rfl rfl rfl rfl (obin (u := .int .u64 ((bt xs q : Nat) : Int)) (v := .int .u64 1) (z := .bool false) rfl rfl (ev rfl rfl) (evc (v := .int .u64 1)) (bin_neq (neF (by rw [hbt]; rfl))) ?_)
        refine rl rfl rfl (opick (b := false) (v := .bool false) rfl rfl (ev (v := .bool false) rfl rfl) (ev (v := .bool false) rfl rfl) ?_)
        refine rnil ?_
        refine thenN ?_
        refine rF (ev rfl rfl) ?_
        refine rskip ?_
        refine thenN ?_
        refine rseq ?_
        refine rreg ?_
        refine rl rfl rfl (omove (v := .int .i64 ((q : Nat) : Int)) rfl rfl (ev rfl rfl) ?_)
        refine rl rfl rfl (ostore [.int .i64 ((q : Nat) : Int)] [.int .i64 ((q : Nat) : Int)] Tryd.sizeOf3 hS 0 rfl rfl (ev rfl hfa17) (ev (v := .int .i64 ((q : Nat) : Int)) rfl rfl) rfl rfl rfl rfl rfl rfl ?_)
        clear hS; intro W3 hS
        refine rnil ?_
        refine thenN ?_
        refine rseq ?_
        refine rreg ?_
        refine rl rfl rfl (oload1 (v := .int .i64 ((pre.length : Nat) : Int)) oneI hS 1 rfl rfl (ev rfl hfa18) rfl rfl ?_)
        refine rl rfl rfl (obin (u := .int .i64 ((pre.length : Nat) : Int)) (v := .int .i64 1) (z := .int .i64 ((pre.length + 1 : Nat) : Int)) rfl rfl (ev rfl rfl) (evc (v := .int .i64 1)) (bin_add (wrap_i64 (by omega) (by omega))) ?_)
        refine rl rfl rfl (ostore [.int .i64 ((pre.length + 1 : Nat) : Int)] [.int .i64 ((pre.length + 1 : Nat) : Int)] Tryd.sizeOf3 hS 1 rfl rfl (ev rfl hfa18) (ev (v := .int .i64 ((pre.length + 1 : Nat) : Int)) rfl rfl) rfl rfl rfl rfl rfl rfl ?_)
        clear hS; intro W4 hS
        refine rnil ?_
        refine thenN ?_
        have hl : (pre ++ [q]).length = pre.length + 1 := by simp
        have hR : (.blk g16 [.int .i64 ((q : Nat) : Int)] 3 :: .blk g18 [.int .i64 ((pre.length + 1 : Nat) : Int)] 3 :: FIX : List Res) = .blk g16 [.int .i64 (lastI (pre ++ [q]))] 3 :: .blk g18 [.int .i64 (((pre ++ [q]).length : Nat) : Int)] 3 :: FIX := by rw [lastI_app, hl]
        refine rseq ?_
        refine rreg ?_
        refine rl rfl rfl (oload1 (v := .int .i64 ((pre.length + 1 : Nat) : Int)) oneI hS 1 rfl rfl (ev rfl hfa18) rfl rfl ?_)
        by_cases h3 : pre.length = 3000
        · refine rl rfl rfl (obin (u := .int .i64 ((pre.length + 1 : Nat) : Int)) (v := .int .i64 3000) (z := .bool true) rfl rfl (ev rfl rfl) (evc (v := .int .i64 3000)) (bin_gtr (decide_eq_true (by omega))) ?_)
          refine rnil ?_
          refine thenN ?_
          refine rT (ev rfl rfl) ?_
          refine rexit ?_
          refine blkX rfl ?_
          exact ⟨_, ⟨rfl, by omega, hR⟩, Sep.mid2b hS⟩
        · refine rl rfl rfl (obin (u := .int .i64 ((pre.length + 1 : Nat) : Int)) (v := .int .i64 3000) (z := .bool false) rfl rfl (ev rfl rfl) (evc (v := .int .i64 3000)) (bin_gtr (decide_eq_false (by omega))) ?_)
          refine rnil ?_
          refine thenN ?_
          refine rF (ev rfl rfl) ?_
          refine rskip ?_
          refine blkN ?_
          exact ⟨_, ⟨by omega, hR⟩, Sep.mid2b hS⟩
      · rintro D Rc W ⟨h3, rfl⟩ hS
        subst hFIX
        refine blkN ?_
        refine thenN ?_
        refine forms_rest rfl ?_ hx hn hS ?_
        · exact ⟨rfl, rfl, rfl, rfl, rfl, rfl, rfl, rfl, trivial⟩
        · exact .inl (by rw [onesFrom_len, ones_val hx.lims])
      · rintro D c pre Rc W hpre ⟨rfl, h3, rfl⟩ hS
        subst hFIX
        refine (wexit ?_).out
        refine blkE ?_
        refine thenN ?_
        refine forms_rest rfl ?_ hx hn hS ?_
        · exact ⟨rfl, rfl, rfl, rfl, rfl, rfl, rfl, rfl, trivial⟩
        · exact .inr h3

theorem forms_law {p0 : Option Addr} {n0 c0 : Nat} {X i : Int} {xs : List Nat} {w : World} (hx : Sl w p0 n0 c0 xs) (ht : Tab w) (hn : n0 ≤ 1048576) (hX : 0 ≤ X ∧ X ≤ 18446744073709551615) (hi : -9223372036854775808 ≤ i ∧ i ≤ 9223372036854775807) :
    Calls Tryd.prog 3 #[.slice p0 n0 c0, .int .u64 X, .int .i64 i] w (RetB w true) := by
  obtain ⟨N, rfl⟩ : ∃ N : Nat, X = N := ⟨X.toNat, by omega⟩
  exact (forms_w hx hn (by omega) hi.2 ht).mono Ret.b

end Go.Proofs.YtgemncfpehmdeaaDoor
