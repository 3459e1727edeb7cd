/- Keeping. -/
import Derived.Test.YtfkaabpaolelgaaGreatDfn
import Derived.Test.YtfkaabpaolelgaaGreatDfo
namespace Go.Proofs.YtfkaabpaolelgaaGreat
open Go.RowKit
def keeping (n : Int) : List DPart := if within n 1 200 = true then [⟨1, n, []⟩] else []
theorem keep_own (w : World) (n : Int) (E : TypeId) : OwnS w.heap.size (w.alloc (.cells #[.int .i64 1, .int .i64 n, .slice none 0 0] E)) (.slice (some ⟨w.heap.size, 0, none⟩) 1 1) [(⟨1, n, []⟩ : DPart)] := by
  have hx : Bx (w.alloc (.cells #[.int .i64 1, .int .i64 n, .slice none 0 0] E)) w.heap.size [.int .i64 1, .int .i64 n, .slice none 0 0] := Bx.new rfl
  obtain ⟨z, c0, c1, c2, f0, f1, f2⟩ := hx.q3
  have ho : own w.heap.size 0 (1 * GoT.n DPart) = [(w.heap.size, 0), (w.heap.size, 1), (w.heap.size, 2)] := rfl
  have hat : At (w.alloc (.cells #[.int .i64 1, .int .i64 n, .slice none 0 0] E)) w.heap.size 0 [.int .i64 1, .int .i64 n, .slice none 0 0] := by
    intro j u hj
    match j, hj with
    | 0, hj => simp at hj; subst hj; exact c0
    | 1, hj => simp at hj; subst hj; exact c1
    | 2, hj => simp at hj; subst hj; exact c2
  refine ⟨own w.heap.size 0 (1 * GoT.n DPart) ++ [], .inr ⟨w.heap.size, 0, 1, _, [], rfl, Nat.le_refl _, by decide, le_BIG (by simp), hat, ⟨_, [], [], [], by simp, ⟨_, [], rfl, Sl.nil, rfl⟩, ⟨rfl, rfl⟩, rfl⟩, ?_, rfl⟩, ?_, ?_, ?_⟩
  · intro p hp
    rw [ho] at hp
    simp only [List.mem_cons, List.not_mem_nil, or_false] at hp
    rcases hp with rfl | rfl | rfl
    · rw [c0]; rfl
    · rw [c1]; rfl
    · rw [c2]; rfl
  · rw [List.append_nil, ho]; simp
  · intro p hp
    rw [List.append_nil, ho] at hp
    simp only [List.mem_cons, List.not_mem_nil, or_false] at hp
    rcases hp with rfl | rfl | rfl <;> exact Nat.le_refl _
  · intro p hp
    rw [List.append_nil, ho] at hp
    simp only [List.mem_cons, List.not_mem_nil, or_false] at hp
    rcases hp with rfl | rfl | rfl
    · exact f0
    · exact f1
    · exact f2
theorem impl_Keeping_c (n : Int) (w : World) : Calls Tryz.prog 7 #[.int .i64 n] w (Out_PartS w (keeping n)) := by
  go_enter Tryz.func7, Tryz.ntmps7
  go_wp2_with fail
  refine (impl_within_c n 1 200 _).mono ?_
  rintro e' w1 ⟨rfl, hb1⟩
  have s1 := hb1.size
  by_cases h1 : within n 1 200 = true
  · have e : keeping n = [⟨1, n, []⟩] := if_pos h1
    rw [h1]
    obtain ⟨f, hs, hf⟩ := keep_own w1 n 62
    have HS := Lib.hid hs
    have HF := Lib.hid hf
    have HB := Lib.hid (hb1.alloc s1 (.cells #[.int .i64 1, .int .i64 n, .slice none 0 0] 62))
    clear hs hf hb1
    go_wp2
    go_ret
    rw [e]
    exact ⟨_, f, rfl, HS.out, HF.out.mono s1, HB.out⟩
  · have h1 : within n 1 200 = false := by simpa using h1
    have e : keeping n = [] := if_neg (by simp [h1])
    rw [h1]
    go_wp2
    go_ret
    rw [e]
    exact ⟨_, _, rfl, Sl.nil, Fresh.nil _ _, hb1⟩
end Go.Proofs.YtfkaabpaolelgaaGreat
