
/-
  zint's Gcd, Lcm, Sum and Product of a list.
-/
import Derived.Test.YtoinfkimlhhmpaaZFold
set_option linter.unusedVariables false
set_option linter.unusedSimpArgs false
namespace Go.Proofs.Ytoinfkimlhhmpaa
open Go.RowKit

/-- What g makes of the first i of a list. -/
def facc (g : Int → Int → Int) (s : Int) (l : List Int) (i : Nat) : Int := (l.take i).foldl g s
theorem facc_succ {g : Int → Int → Int} {s z : Int} {l : List Int} {i : Nat} (h : l[i]? = some z) : facc g s l (i + 1) = g (facc g s l i) z := by
  unfold facc
  rw [List.take_add_one, h, List.foldl_append]; rfl
def gcdZ (x y : Int) : Int := (Int.gcd x y : Int)
def lcmZ (x y : Int) : Int := (Int.lcm x y : Int)
theorem Zs.elWd {w : World} {p : Option Addr} {m K : Nat} {l : List Int} (h : Zs w p m l K) {i : Nat} {z : Int} (hi : l[i]? = some z) : Wd z K := by
  obtain ⟨g, off, b, q, n, k, _, _, _, h3⟩ := h.2.2 i z hi
  exact h3.wd
theorem Zs.some {w : World} {p : Option Addr} {m K : Nat} {l : List Int} (h : Zs w p m l K) {i : Nat} (hi : i < m) : ∃ z, l[i]? = some z := by
  have hi' : i < l.length := by rw [← h.1]; exact hi
  exact ⟨_, List.getElem?_eq_getElem hi'⟩
theorem Wd.zero (k : Nat) : Wd 0 k := by
  have : ll (0 : Int).natAbs = 0 := Nat.le_zero.1 (ll_le (k := 0) (by decide))
  unfold Wd; omega
theorem facc_gcd_wd {w : World} {p : Option Addr} {m : Nat} {l : List Int} (h : Zs w p m l 67108864) : ∀ i, i ≤ m → Wd (facc gcdZ 0 l i) 67108864 := by
  intro i
  induction i with
  | zero => intro _; exact Wd.zero _
  | succ i ih =>
    intro hi
    obtain ⟨z, hz⟩ := h.some (i := i) (by omega)
    rw [facc_succ hz]
    exact Wd.gcd (ih (by omega)) (h.elWd hz) rfl (by omega)
set_option maxRecDepth 100000 in
set_option maxHeartbeats 16000000 in
theorem wzGcd {l : List Int} {w : World} {z : Int} {pl : Option Addr} {m cl : Nat} (hl : Zs w pl m l 67108864) (hz : Hid (facc gcdZ 0 l m = z)) :
    Calls Try.prog 89 #[.slice pl m cl] w (Ret (Zt z) w) := by
  have hS := Sep.init w
  refine went Try.func89 rfl (n := 6) rfl rfl ?_
  refine wseq ?_
  refine wreg ?_
  refine wl rfl (oalloc [.bool false, .slice none 0 0] hS rfl rfl Try.zeroValue25 rfl ?_)
  clear hS; intro g1 w2 hS
  refine wnil ?_
  refine thenN ?_
  refine wseq ?_
  refine wreg ?_
  refine wl rfl (obuild (ps := #[]) (v := .agg #[.bool false, .slice none 0 0]) rfl rfl (parts0) (fun w => by simp [go_sem, Instr.build, Instr.fill]) ?_)
  refine wl rfl (omove (v := .slice pl m cl) rfl rfl (ev (v := .slice pl m cl) rfl rfl) ?_)
  by_cases hm : m = 0
  ·
    refine wl rfl (ocall rfl rfl Try.call106 rfl (wfold0 (acc := fun _ => 0) Try.call122 (hl.at hS) hm) (args3 (ev rfl rfl) (ev rfl rfl) rfl) ?_)
    rintro _ w3 ⟨_, _, rfl, ⟨rfl, rfl⟩, hN⟩
    refine ⟨_, rfl, ?_⟩
    replace hS := hS.news hN; clear hN
    refine wl rfl (ostore [.bool false, .slice none 0 0] [.bool false, .slice none 0 0] Try.sizeOf25 hS 0 rfl rfl (ev rfl rfl) (ev (v := .agg #[.bool false, .slice none 0 0]) rfl rfl) rfl rfl rfl rfl rfl rfl ?_)
    clear hS; intro w4 hS
    refine wnil ?_
    refine thenN ?_
    refine wleave ?_
    refine wret1 Try.results89 (tellC (cs := [.bool false, .slice none 0 0]) aggZ hS 0 rfl rfl rfl rfl) ?_
    obtain rfl : 0 = z := by rw [← hz.out, hm]; rfl
    exact ⟨_, _, rfl, ⟨none, 0, 0, rfl, rfl⟩, New.row hS.below (Fr.nil _ _)⟩
  ·
    refine wl rfl (ocall rfl rfl Try.call106 rfl (wfold (acc := facc gcdZ 0 l) Try.call122 (hl.at hS) (fun i z b b2 p q n c k d w hi hx hy => wzgcd2 (hx.mono (by omega)) (hy.mono (by omega)) (show Hid (_ = _) from (facc_succ (g := gcdZ) (s := 0) hi).symm)) (fun i hi => (facc_gcd_wd hl i hi).mono (by omega)) ((Zr.nil _).mono (by omega)) (by omega)) (args3 (ev rfl rfl) (ev rfl rfl) rfl) ?_)
    rintro _ w3 ⟨_, _, rfl, ⟨pr, nr, cr, rfl, rfl⟩, hN⟩
    refine ⟨_, rfl, ?_⟩
    replace hS := hS.news hN; clear hN
    refine wl rfl (ostore [.bool (ng ((facc gcdZ 0 l m))), .slice pr nr cr] [.bool (ng ((facc gcdZ 0 l m))), .slice pr nr cr] Try.sizeOf25 hS 1 rfl rfl (ev rfl rfl) (ev (v := .agg #[.bool (ng ((facc gcdZ 0 l m))), .slice pr nr cr]) rfl rfl) rfl rfl rfl rfl rfl rfl ?_)
    clear hS; intro w4 hS
    refine wnil ?_
    refine thenN ?_
    refine wleave ?_
    refine wret1 Try.results89 (tellC (cs := [.bool (ng ((facc gcdZ 0 l m))), .slice pr nr cr]) aggZ hS 1 rfl rfl rfl rfl) ?_
    obtain rfl := hz.out
    exact ⟨_, _, rfl, ⟨_, _, _, rfl, rfl⟩, hS.new1 0 rfl⟩

end Go.Proofs.Ytoinfkimlhhmpaa
