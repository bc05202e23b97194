/- Plain laws of what the functions compute; no program stands here. -/
import Derived.Test.YtlkopcgoaldpeaaMdPr2
namespace Go.Proofs.Ytlkopcgoaldpeaa.HL
open Go
set_option linter.unusedSimpArgs false
theorem no_step {L : List Int} {l : Int} {k : Nat} (h : k < L.length) (hn : l ∉ L.take k) (he : L.getD k 0 ≠ l) : l ∉ L.take (k + 1) := by
  rw [take_letter h, List.mem_append]
  rintro (h1 | h1)
  · exact hn h1
  · simp only [List.mem_singleton] at h1; exact he h1.symm
theorem mem_of_getD {L : List Int} {l : Int} {k : Nat} (h : k < L.length) (he : L.getD k 0 = l) : l ∈ L := by
  rw [← he, List.getD_eq_getElem?_getD, List.getElem?_eq_getElem h]; exact List.getElem_mem h
theorem shp_nil_beq (op : Int) : ((strOf (shp op)).toList == (⟨#[]⟩ : ByteArray).toList) = decide (shp op = []) :=
  strOf_beq (b := []) (shp_bytes op) (fun x h => by cases h)
end Go.Proofs.Ytlkopcgoaldpeaa.HL
