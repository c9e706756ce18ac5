
/-
  Lists of what a call owns with an unknown rest behind.
-/
import Derived.Test.YtgemncfpehmdeaaDoorRange2
set_option linter.unusedVariables false
set_option linter.unusedSimpArgs false
namespace Go.Proofs.YtgemncfpehmdeaaDoor
open Go.RowKit

theorem Sep.pickT {w0 w : World} {T : List Res} (R S : List Res) (h : Sep w0 (R ++ T) w) (ks : List Nat) (hn : ks.Nodup) (he : ks.map (fun k => R[k]?) = S.map some) : Sep w0 (S ++ T) w := by
  refine h.pick (ks ++ List.range' R.length T.length) ?_ ?_
  · have hlt : ∀ k ∈ ks, k < R.length := fun k hk => by
      have : R[k]? ∈ S.map some := by rw [← he]; exact List.mem_map.2 ⟨k, hk, rfl⟩
      obtain ⟨s, _, hs⟩ := List.mem_map.1 this
      exact (List.getElem?_eq_some_iff.1 hs.symm).1
    refine List.nodup_append.2 ⟨hn, List.nodup_range', fun a ha b hb e => ?_⟩
    subst e
    have := hlt a ha
    rw [List.mem_range'_1] at hb
    omega
  · rw [List.map_append, List.map_append]
    congr 1
    · rw [← he]
      refine List.map_congr_left fun k hk => ?_
      have : R[k]? ∈ S.map some := by rw [← he]; exact List.mem_map.2 ⟨k, hk, rfl⟩
      obtain ⟨s, _, hs⟩ := List.mem_map.1 this
      exact List.getElem?_append_left (List.getElem?_eq_some_iff.1 hs.symm).1
    · apply List.ext_getElem?
      intro i
      rw [List.getElem?_map, List.getElem?_map]
      by_cases hi : i < T.length
      · rw [List.getElem?_range' hi, Option.map_some, List.getElem?_append_right (by omega)]
        simp [hi]
      · rw [List.getElem?_eq_none (by simpa using hi), List.getElem?_eq_none (by omega)]; rfl
theorem Sep.behind {w0 w : World} {T : List Res} (R : List Res) (h : Sep w0 (R ++ T) w) : Sep w0 T w := h.sub (List.sublist_append_right R T)
theorem Sep.front1 {w0 w : World} {R S r : List Res} (h : Sep w0 (R ++ (r ++ S)) w) : Sep w0 (r ++ (R ++ S)) w := h.perm (by
  rw [← List.append_assoc, ← List.append_assoc]
  exact List.Perm.append_right S List.perm_append_comm)
end Go.Proofs.YtgemncfpehmdeaaDoor
