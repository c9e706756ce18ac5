
/-
  Lists of what a call owns with an unknown rest behind.
-/
import Derived.Test.YtoinfkimlhhmpaaRange2
set_option linter.unusedVariables false
set_option linter.unusedSimpArgs false
namespace Go.Proofs.Ytoinfkimlhhmpaa
open Go.RowKit

theorem Sep.pickT {w0 w : World} {T : List Res} (R S : List Res) (h : Sep w0 (R ++ T) w) (ks : List Nat) (hn : ks.Nodup) (he : ks.map (fun k => R[k]?) = S.map some) : Sep w0 (S ++ T) w := by
  refine h.pick (ks ++ List.range' R.length T.length) ?_ ?_
  · have hlt : ∀ k ∈ ks, k < R.length := fun k hk => by
      have : R[k]? ∈ S.map some := by rw [← he]; exact List.mem_map.2 ⟨k, hk, rfl⟩
      obtain ⟨s, _, hs⟩ := List.mem_map.1 this
      exact (List.getElem?_eq_some_iff.1 hs.symm).1
    refine List.nodup_append.2 ⟨hn, List.nodup_range', fun a ha b hb e => ?_⟩
    subst e
    have := hlt a ha
    rw [List.mem_range'_1] at hb
    omega
  · rw [List.map_append, List.map_append]
    congr 1
    · rw [← he]
      refine List.map_congr_left fun k hk => ?_
      have : R[k]? ∈ S.map some := by rw [← he]; exact List.mem_map.2 ⟨k, hk, rfl⟩
      obtain ⟨s, _, hs⟩ := List.mem_map.1 this
      exact List.getElem?_append_left (List.getElem?_eq_some_iff.1 hs.symm).1
    · apply List.ext_getElem?
      intro i
      rw [List.getElem?_map, List.getElem?_map]
      by_cases hi : i < T.length
      · rw [List.getElem?_range' hi, Option.map_some, List.getElem?_append_right (by omega)]
        simp [hi]
      · rw [List.getElem?_eq_none (by simpa using hi), List.getElem?_eq_none (by omega)]; rfl
/-- A row that may be written, among what is read. -/
theorem Sep.toRow {w0 w : World} {R : List Res} (h : Sep w0 R w) (k : Nat) {p : Option Addr} {n c : Nat} {xs : List Nat} (hk : R[k]? = some (.rowm p n c xs)) : Sep w0 (R.set k (.row p n c xs)) w := by
  have hkl : k < R.length := (List.getElem?_eq_some_iff.1 hk).1
  have hmem : Res.rowm p n c xs ∈ R := List.mem_of_getElem? hk
  refine ⟨h.below, fun s hs => ?_, fun s hs ha g hg => ?_, ?_⟩
  · rcases List.mem_or_eq_of_mem_set hs with hs | rfl
    · exact h.holds s hs
    · exact (show Fr 0 w p n c xs from h.holds (.rowm p n c xs) hmem)
  · rcases List.mem_or_eq_of_mem_set hs with hs | rfl
    · exact h.low s hs ha g hg
    · exact h.low (.rowm p n c xs) hmem rfl g hg
  · rw [List.pairwise_iff_getElem]
    obtain ⟨_, hke⟩ := List.getElem?_eq_some_iff.1 hk
    intro i j hi hj hij he g h1 h2
    simp only [List.length_set] at hi hj
    rw [List.getElem_set] at h1 h2 he
    rw [List.getElem_set] at he
    have h0 := List.pairwise_iff_getElem.1 h.apart i j hi hj hij
    by_cases ei : k = i
    · subst ei
      rw [if_pos rfl] at h1 he
      rw [if_neg (by omega)] at h2 he
      exact h0 (by rw [hke]; rfl) g (by rw [hke]; exact h1) h2
    · rw [if_neg ei] at h1 he
      by_cases ej : k = j
      · subst ej
        rw [if_pos rfl] at h2 he
        exact h0 (by rw [hke, Bool.or_comm]; rfl) g h1 (by rw [hke]; exact h2)
      · rw [if_neg ej] at h2 he
        exact h0 he g h1 h2
theorem Sep.behind {w0 w : World} {T : List Res} (R : List Res) (h : Sep w0 (R ++ T) w) : Sep w0 T w := h.sub (List.sublist_append_right R T)
theorem Sep.front1 {w0 w : World} {R S r : List Res} (h : Sep w0 (R ++ (r ++ S)) w) : Sep w0 (r ++ (R ++ S)) w := h.perm (by
  rw [← List.append_assoc, ← List.append_assoc]
  exact List.Perm.append_right S List.perm_append_comm)
end Go.Proofs.Ytoinfkimlhhmpaa
