/- How marks are counted through parts, entries, seen entries. -/
import Derived.Test.YtihbmefidbmmdaaMk0
import Derived.Test.YtihbmefidbmmdaaOut
import Derived.StillTailTactics
namespace Go.Proofs.Ytihbmefidbmmdaa
open Go.RowKit
instance : GoM DPart where
  cnt := fun x => 2 + cntL x.signs
  mrk := fun k x => ⟨k, k + 1, mkL (k + 2) x.signs⟩
  cnt_mk := fun k x => by simp [cntL_mkL]
  mk_mk := fun k x => by simp [mkL_mkL]
instance : GoMS DPart := ⟨fun x => by have : GoM.cnt x = 2 + cntL x.signs := rfl; have : GoS.sz x = szL x.signs := rfl; have := cntL_le x.signs; omega⟩
instance : GoM DEntry where
  cnt := fun x => 2 + cntL x.o
  mrk := fun k x => ⟨k, k + 1, mkL (k + 2) x.o⟩
  cnt_mk := fun k x => by simp [cntL_mkL]
  mk_mk := fun k x => by simp [mkL_mkL]
instance : GoMS DEntry := ⟨fun x => by have : GoM.cnt x = 2 + cntL x.o := rfl; have : GoS.sz x = szL x.o := rfl; have := cntL_le x.o; omega⟩
instance : GoM DSeen where
  cnt := fun _ => 3
  mrk := fun k _ => ⟨k, k + 1, k + 2⟩
  cnt_mk := fun _ _ => rfl
  mk_mk := fun _ _ => rfl
instance : GoMS DSeen := ⟨fun x => by have : GoM.cnt x = 3 := rfl; have : GoS.sz x = 0 := rfl; omega⟩
end Go.Proofs.Ytihbmefidbmmdaa
