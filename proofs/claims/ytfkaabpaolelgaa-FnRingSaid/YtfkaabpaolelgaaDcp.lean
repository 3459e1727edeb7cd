/- Names, operations of entries, copies of documents. -/
import Derived.Test.YtfkaabpaolelgaaApl
import Derived.Deep.RegionHeld3
import Derived.Deep.DrawnRows
namespace Go.Proofs.Ytfkaabpaolelgaa
open Go.RowKit
attribute [local go_sem ↓] Go.wp_at_zero Go.wp_at_succ
theorem rdSeen_fp {M : Nat} {w : World} {c : List Value} {x : DSeen} {f : List Pos} (h : GoT.rd M w c x f) : f = [] := h.2
theorem Src.seens {w : World} {v : Value} {l : List DSeen} (h : RdS w v l) : Src w v l [] := by
  obtain ⟨gs, ao, c, news, h1, h2, h3⟩ := h.src
  have := Els.flat (α := DSeen) rdSeen_fp h2
  subst this
  exact ⟨ao, c, news, h1, h2, h3⟩
theorem Row.flatB {α : Type} [GoT α] {B : Nat} {w : World} {v : Value} {l : List α} (h : Row B w v l []) : OwnB B w.heap.size w v l := (h.owns (Fresh.nil _ _)).bd

theorem info_ops : (Try.prog.info? 30).map (fun i => (i.zero, i.size, i.bytes)) = some (some (.slice none 0 0), 1, 24) := by kernel_rfl

/-- a name: small letters, one to eight -/
def nameOk (s : ByteArray) : Bool := s.data.toList.all (fun c => decide (97 ≤ (c.toNat : Int)) && decide ((c.toNat : Int) ≤ 122)) && within s.size 1 8
theorem ba_get (s : ByteArray) (k : Nat) (h : k < s.size) : s.data.toList[k]? = some s[k] := by
  rw [List.getElem?_eq_getElem (by simpa using h)]; rfl
end Go.Proofs.Ytfkaabpaolelgaa
