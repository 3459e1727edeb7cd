/- Equalities, sizes and readings of the laws. -/
import Derived.Test.YtiahgjnpinjblaaTos
import Derived.StillTailTactics
import Derived.Test.YtiahgjnpinjblaaChecked
import Derived.Deep.Slices
import Derived.ChangeArms
namespace Go.Proofs.Ytiahgjnpinjblaa
open Go.RowKit


theorem szi_DPart : ∀ w1, (sizeOf 60).run Try.prog w1 = .ok 3 w1 := fun _ => by kernel_rfl


theorem szi_DEntry : ∀ w1, (sizeOf 76).run Try.prog w1 = .ok 3 w1 := fun _ => by kernel_rfl


theorem szi_DSeen : ∀ w1, (sizeOf 65).run Try.prog w1 = .ok 3 w1 := fun _ => by kernel_rfl

end Go.Proofs.Ytiahgjnpinjblaa

namespace Go.Proofs.Ytiahgjnpinjblaa
open Go.RowKit


theorem szi_DDoc : ∀ w1, (sizeOf 27).run Try.prog w1 = .ok 5 w1 := fun _ => by kernel_rfl




end Go.Proofs.Ytiahgjnpinjblaa

namespace Go.Proofs.Ytiahgjnpinjblaa
open Go.RowKit






end Go.Proofs.Ytiahgjnpinjblaa

namespace Go.Proofs.Ytiahgjnpinjblaa
open Go.RowKit

/-- readings without a bound of ours on the lists -/
def RdM {α : Type} [GoT α] (M : Nat) (w : World) (cs : List Value) (x : α) : Prop := ∃ fp, GoT.rd M w cs x fp
def RdSM {α : Type} [GoT α] (M : Nat) (w : World) (v : Value) (l : List α) : Prop := ∃ fp, Sl M w v l fp
section
variable {α : Type} [GoT α] {M : Nat} {w w' : World} {v : Value} {l : List α}
theorem RdSM.below (h : RdSM M w v l) (hb : Below w.heap.size w w') : RdSM M w' v l := by
  obtain ⟨fp, h⟩ := h
  exact ⟨fp, h.keep (Live.same_below hb (Live.lt h.live))⟩
theorem RdSM.len (h : RdSM M w v l) {P : Program} {T E : TypeId} (hT : P.underlying T = some (.slice E)) (w1 : World) (ty : TypeId) :
    (Builtin.len_ #[T] ty #[v]).run P w1 = .ok (.int .i64 l.length) w1 := let ⟨_, h⟩ := h; h.len hT w1 ty
theorem RdSM.le (h : RdSM M w v l) : l.length ≤ 9223372036854775807 := let ⟨_, h⟩ := h; by have := h.le; unfold maxLen at this; omega
theorem RdSM.idx (h : RdSM M w v l) {P : Program} {T E : TypeId} (hT : P.underlying T = some (.slice E)) (hl : ∀ w1, (sizeOf E).run P w1 = .ok (GoT.n α) w1) (k : Nat) {x : α} (hk : l[k]? = some x) :
    ∃ b o cs, (∀ w1, (Instr.indexAt T v (.int .i64 k)).run P w1 = .ok (.pointer (some ⟨b, o, none⟩)) w1) ∧ At w b o cs ∧ RdM M w cs x := by
  obtain ⟨fp, h⟩ := h
  obtain ⟨b, o, cs, f, h1, h2, h3, _⟩ := h.idx hT hl k hk
  exact ⟨b, o, cs, h1, h2, f, h3⟩
end
/-- a datum's measure: lengths of lists and strings -/
class GoS (α : Type) [GoT α] where
  sz : α → Nat
  up : ∀ {M N : Nat} {w : World} {cs : List Value} {x : α} {fp : List Pos}, GoT.rd M w cs x fp → sz x ≤ N → GoT.rd N w cs x fp
def szs {α : Type} [GoT α] [GoS α] : List α → Nat
  | [] => 0
  | x :: xs => GoS.sz x + szs xs
def szL {α : Type} [GoT α] [GoS α] (l : List α) : Nat := l.length + szs l
section
variable {α : Type} [GoT α] [GoS α]
theorem szs_append : ∀ (a b : List α), szs (a ++ b) = szs a + szs b
  | [], b => by simp [szs]
  | x :: xs, b => by simp [szs, szs_append xs]; omega
theorem szs_take_succ {l : List α} {k : Nat} {x : α} (h : l[k]? = some x) : szs (l.take (k + 1)) = szs (l.take k) + GoS.sz x := by
  rw [take_snoc h, szs_append]; simp [szs]
theorem szs_take_le (l : List α) (k : Nat) : szs (l.take k) ≤ szs l := by
  have := szs_append (l.take k) (l.drop k)
  rw [List.take_append_drop] at this
  omega
theorem Els.up {M N : Nat} {w : World} : ∀ {l : List α} {cs : List Value} {fp : List Pos}, Els M w cs l fp → szs l ≤ N → Els N w cs l fp
  | [], _, _, h, _ => h
  | x :: xs, _, _, ⟨c1, c2, f1, f2, hc, h1, h2, hf⟩, hs => by
    simp only [szs] at hs
    exact ⟨c1, c2, f1, f2, hc, GoS.up h1 (by omega), Els.up h2 (by omega), hf⟩
theorem Sl.up {M N : Nat} {w : World} {v : Value} {l : List α} {fp : List Pos} (h : Sl M w v l fp) (hs : szL l ≤ N) : Sl N w v l fp := by
  unfold szL at hs
  rcases h with h | ⟨b, o, cap, cs, fs, rfl, h1, h2, h3, ha, he, hl, rfl⟩
  · exact .inl h
  · exact .inr ⟨b, o, cap, cs, fs, rfl, h1, h2, by omega, ha, he.up (by omega), hl, rfl⟩
end
instance : GoS Int where
  sz := fun _ => 0
  up := fun h _ => h
theorem szs_int : ∀ (l : List Int), szs l = 0
  | [] => rfl
  | x :: xs => by simp [szs, szs_int xs, GoS.sz]
theorem szL_int (l : List Int) : szL l = l.length := by simp [szL, szs_int]

instance : GoS DPart where
  sz := fun x => szL x.signs
  up := by
    rintro M N w cs x fp ⟨v_signs, f_signs, rfl, h_signs, rfl⟩ hs
    exact ⟨v_signs, _, rfl, h_signs.up (by omega), rfl⟩
instance : GoS DEntry where
  sz := fun x => szL x.o
  up := by
    rintro M N w cs x fp ⟨v_o, f_o, rfl, h_o, rfl⟩ hs
    exact ⟨v_o, _, rfl, h_o.up (by omega), rfl⟩
instance : GoS DSeen where
  sz := fun _ => 0
  up := fun h _ => h
instance : GoS DDoc where
  sz := fun x => x.name.size + szL x.text + szL x.list + szL x.seen
  up := by
    rintro M N w cs x fp ⟨v_text, v_list, v_seen, f_text, f_list, f_seen, rfl, n_name, h_text, h_list, h_seen, rfl⟩ hs
    exact ⟨v_text, v_list, v_seen, _, _, _, rfl, (by omega), h_text.up (by omega), h_list.up (by omega), h_seen.up (by omega), rfl⟩
instance : GoS DRing where
  sz := fun x => szL x.list
  up := by
    rintro M N w cs x fp ⟨v_list, f_list, rfl, h_list, rfl⟩ hs
    exact ⟨v_list, _, rfl, h_list.up (by omega), rfl⟩
instance : GoS DSub where
  sz := fun x => x.doc.size + GoS.sz x.r
  up := by
    rintro M N w cs x fp ⟨v_r, f_r, rfl, n_doc, h_r, rfl⟩ hs
    exact ⟨v_r, _, rfl, (by omega), GoS.up h_r (by omega), rfl⟩
instance : GoS DHub where
  sz := fun x => szL x.docs + szL x.subs
  up := by
    rintro M N w cs x fp ⟨v_docs, v_subs, f_docs, f_subs, rfl, h_docs, h_subs, rfl⟩ hs
    exact ⟨v_docs, v_subs, _, _, rfl, h_docs.up (by omega), h_subs.up (by omega), rfl⟩
instance : GoS DCall where
  sz := fun x => x.doc.size + szL x.o + szL x.text
  up := by
    rintro M N w cs x fp ⟨v_o, v_text, f_o, f_text, rfl, n_doc, h_o, h_text, rfl⟩ hs
    exact ⟨v_o, v_text, _, _, rfl, (by omega), h_o.up (by omega), h_text.up (by omega), rfl⟩
instance : GoS DAnswer where
  sz := fun x => szL x.text + szL x.list
  up := by
    rintro M N w cs x fp ⟨v_text, v_list, f_text, f_list, rfl, h_text, h_list, rfl⟩ hs
    exact ⟨v_text, v_list, _, _, rfl, h_text.up (by omega), h_list.up (by omega), rfl⟩
instance : GoS DTask where
  sz := fun x => GoS.sz x.c + GoS.sz x.a
  up := by
    rintro M N w cs x fp ⟨v_c, v_a, f_c, f_a, rfl, h_c, h_a, rfl⟩ hs
    exact ⟨v_c, v_a, _, _, rfl, GoS.up h_c (by omega), GoS.up h_a (by omega), rfl⟩
instance : GoS DQueue where
  sz := fun x => x.doc.size + szL x.list
  up := by
    rintro M N w cs x fp ⟨v_list, f_list, rfl, n_doc, h_list, rfl⟩ hs
    exact ⟨v_list, _, rfl, (by omega), h_list.up (by omega), rfl⟩
instance : GoS DWorld where
  sz := fun x => GoS.sz x.h + szL x.locks + szL x.queues + szL x.tasks
  up := by
    rintro M N w cs x fp ⟨v_h, v_locks, v_queues, v_tasks, f_h, f_locks, f_queues, f_tasks, rfl, h_h, h_locks, h_queues, h_tasks, rfl⟩ hs
    exact ⟨v_h, v_locks, v_queues, v_tasks, _, _, _, _, rfl, GoS.up h_h (by omega), h_locks.up (by omega), h_queues.up (by omega), h_tasks.up (by omega), rfl⟩
theorem invM_DPart {M : Nat} {w : World} {cs : List Value} {x : DPart} (h : RdM M w cs x) : ∃ v_signs, cs = [.int .i64 x.kind, .int .i64 x.n, v_signs] ∧ RdSM M w v_signs x.signs := by
  obtain ⟨fp, h⟩ := h
  obtain ⟨v_signs, f_signs, rfl, h_signs, rfl⟩ := h
  exact ⟨v_signs, rfl, ⟨_, h_signs⟩⟩
theorem invM_DEntry {M : Nat} {w : World} {cs : List Value} {x : DEntry} (h : RdM M w cs x) : ∃ v_o, cs = [.int .i64 x.client, .int .i64 x.seq, v_o] ∧ RdSM M w v_o x.o := by
  obtain ⟨fp, h⟩ := h
  obtain ⟨v_o, f_o, rfl, h_o, rfl⟩ := h
  exact ⟨v_o, rfl, ⟨_, h_o⟩⟩
theorem invM_DSeen {M : Nat} {w : World} {cs : List Value} {x : DSeen} (h : RdM M w cs x) : cs = [.int .i64 x.client, .int .i64 x.seq, .int .i64 x.rev] := by
  obtain ⟨fp, h⟩ := h
  obtain ⟨rfl, rfl⟩ := h
  exact rfl
theorem invM_DDoc {M : Nat} {w : World} {cs : List Value} {x : DDoc} (h : RdM M w cs x) : ∃ v_text v_list v_seen, cs = [.string x.name, .int .i64 x.from_, v_text, v_list, v_seen] ∧ x.name.size ≤ M ∧ RdSM M w v_text x.text ∧ RdSM M w v_list x.list ∧ RdSM M w v_seen x.seen := by
  obtain ⟨fp, h⟩ := h
  obtain ⟨v_text, v_list, v_seen, f_text, f_list, f_seen, rfl, n_name, h_text, h_list, h_seen, rfl⟩ := h
  exact ⟨v_text, v_list, v_seen, rfl, n_name, ⟨_, h_text⟩, ⟨_, h_list⟩, ⟨_, h_seen⟩⟩
theorem invM_DRing {M : Nat} {w : World} {cs : List Value} {x : DRing} (h : RdM M w cs x) : ∃ v_list, cs = [.int .i64 x.cap, .int .i64 x.next, .bool x.out, v_list] ∧ RdSM M w v_list x.list := by
  obtain ⟨fp, h⟩ := h
  obtain ⟨v_list, f_list, rfl, h_list, rfl⟩ := h
  exact ⟨v_list, rfl, ⟨_, h_list⟩⟩
theorem invM_DSub {M : Nat} {w : World} {cs : List Value} {x : DSub} (h : RdM M w cs x) : ∃ v_r_list, cs = [.int .i64 x.id, .string x.doc, .int .i64 x.r.cap, .int .i64 x.r.next, .bool x.r.out, v_r_list] ∧ x.doc.size ≤ M ∧ RdSM M w v_r_list x.r.list := by
  obtain ⟨fp, h⟩ := h
  obtain ⟨c_r, f_r, rfl, n_doc, h_r, rfl⟩ := h
  obtain ⟨v_r_list, f_r_list, rfl, h_r_list, rfl⟩ := h_r
  exact ⟨v_r_list, rfl, n_doc, ⟨_, h_r_list⟩⟩
theorem invM_DHub {M : Nat} {w : World} {cs : List Value} {x : DHub} (h : RdM M w cs x) : ∃ v_docs v_subs, cs = [.bool x.shut, v_docs, v_subs, .int .i64 x.last] ∧ RdSM M w v_docs x.docs ∧ RdSM M w v_subs x.subs := by
  obtain ⟨fp, h⟩ := h
  obtain ⟨v_docs, v_subs, f_docs, f_subs, rfl, h_docs, h_subs, rfl⟩ := h
  exact ⟨v_docs, v_subs, rfl, ⟨_, h_docs⟩, ⟨_, h_subs⟩⟩
theorem invM_DCall {M : Nat} {w : World} {cs : List Value} {x : DCall} (h : RdM M w cs x) : ∃ v_o v_text, cs = [.int .i64 x.kind, .string x.doc, .int .i64 x.client, .int .i64 x.seq, .int .i64 x.n, v_o, v_text] ∧ x.doc.size ≤ M ∧ RdSM M w v_o x.o ∧ RdSM M w v_text x.text := by
  obtain ⟨fp, h⟩ := h
  obtain ⟨v_o, v_text, f_o, f_text, rfl, n_doc, h_o, h_text, rfl⟩ := h
  exact ⟨v_o, v_text, rfl, n_doc, ⟨_, h_o⟩, ⟨_, h_text⟩⟩
theorem invM_DAnswer {M : Nat} {w : World} {cs : List Value} {x : DAnswer} (h : RdM M w cs x) : ∃ v_text v_list, cs = [.int .i64 x.code, .int .i64 x.rev, v_text, v_list] ∧ RdSM M w v_text x.text ∧ RdSM M w v_list x.list := by
  obtain ⟨fp, h⟩ := h
  obtain ⟨v_text, v_list, f_text, f_list, rfl, h_text, h_list, rfl⟩ := h
  exact ⟨v_text, v_list, rfl, ⟨_, h_text⟩, ⟨_, h_list⟩⟩
theorem invM_DTask {M : Nat} {w : World} {cs : List Value} {x : DTask} (h : RdM M w cs x) : ∃ v_c_o v_c_text v_a_text v_a_list, cs = [.int .i64 x.c.kind, .string x.c.doc, .int .i64 x.c.client, .int .i64 x.c.seq, .int .i64 x.c.n, v_c_o, v_c_text, .int .i64 x.pc, .int .i64 x.inv, .int .i64 x.lin, .int .i64 x.res, .int .i64 x.a.code, .int .i64 x.a.rev, v_a_text, v_a_list] ∧ x.c.doc.size ≤ M ∧ RdSM M w v_c_o x.c.o ∧ RdSM M w v_c_text x.c.text ∧ RdSM M w v_a_text x.a.text ∧ RdSM M w v_a_list x.a.list := by
  obtain ⟨fp, h⟩ := h
  obtain ⟨c_c, c_a, f_c, f_a, rfl, h_c, h_a, rfl⟩ := h
  obtain ⟨v_c_o, v_c_text, f_c_o, f_c_text, rfl, n_c_doc, h_c_o, h_c_text, rfl⟩ := h_c
  obtain ⟨v_a_text, v_a_list, f_a_text, f_a_list, rfl, h_a_text, h_a_list, rfl⟩ := h_a
  exact ⟨v_c_o, v_c_text, v_a_text, v_a_list, rfl, n_c_doc, ⟨_, h_c_o⟩, ⟨_, h_c_text⟩, ⟨_, h_a_text⟩, ⟨_, h_a_list⟩⟩
theorem invM_DQueue {M : Nat} {w : World} {cs : List Value} {x : DQueue} (h : RdM M w cs x) : ∃ v_list, cs = [.string x.doc, v_list] ∧ x.doc.size ≤ M ∧ RdSM M w v_list x.list := by
  obtain ⟨fp, h⟩ := h
  obtain ⟨v_list, f_list, rfl, n_doc, h_list, rfl⟩ := h
  exact ⟨v_list, rfl, n_doc, ⟨_, h_list⟩⟩
theorem invM_DWorld {M : Nat} {w : World} {cs : List Value} {x : DWorld} (h : RdM M w cs x) : ∃ v_h_docs v_h_subs v_locks v_queues v_tasks, cs = [.bool x.h.shut, v_h_docs, v_h_subs, .int .i64 x.h.last, v_locks, v_queues, v_tasks, .int .i64 x.step] ∧ RdSM M w v_h_docs x.h.docs ∧ RdSM M w v_h_subs x.h.subs ∧ RdSM M w v_locks x.locks ∧ RdSM M w v_queues x.queues ∧ RdSM M w v_tasks x.tasks := by
  obtain ⟨fp, h⟩ := h
  obtain ⟨c_h, v_locks, v_queues, v_tasks, f_h, f_locks, f_queues, f_tasks, rfl, h_h, h_locks, h_queues, h_tasks, rfl⟩ := h
  obtain ⟨v_h_docs, v_h_subs, f_h_docs, f_h_subs, rfl, h_h_docs, h_h_subs, rfl⟩ := h_h
  exact ⟨v_h_docs, v_h_subs, v_locks, v_queues, v_tasks, rfl, ⟨_, h_h_docs⟩, ⟨_, h_h_subs⟩, ⟨_, h_locks⟩, ⟨_, h_queues⟩, ⟨_, h_tasks⟩⟩
end Go.Proofs.Ytiahgjnpinjblaa

namespace Go.Proofs.Ytiahgjnpinjblaa
open Go.RowKit






end Go.Proofs.Ytiahgjnpinjblaa

namespace Go.Proofs.Ytiahgjnpinjblaa
open Go.RowKit






end Go.Proofs.Ytiahgjnpinjblaa

namespace Go.Proofs.Ytiahgjnpinjblaa
open Go.RowKit





end Go.Proofs.Ytiahgjnpinjblaa

namespace Go.Proofs.Ytiahgjnpinjblaa
open Go.RowKit
theorem i64_bounds {n : Int} (h : (Lit.int .i64 n).wf = true) : -9223372036854775808 ≤ n ∧ n ≤ 9223372036854775807 := by
  simp [Lit.wf, IntKind.min, IntKind.max, IntKind.bits, IntKind.signed] at h
  omega
def ringLag (x : DRing) : Int := if x.out = true then -1 else x.list.length
theorem ringLag_t {x : DRing} (h : x.out = true) : ringLag x = -1 := if_pos h
theorem ringLag_f {x : DRing} (h : x.out = false) : ringLag x = x.list.length := by unfold ringLag; rw [h]; rfl
end Go.Proofs.Ytiahgjnpinjblaa

namespace Go.Proofs.Ytiahgjnpinjblaa
open Go.RowKit

theorem list2 {α : Type} : ∀ {l : List α}, l.length = 2 → ∃ x0 x1, l = [x0, x1]
  | [x0, x1], _ => ⟨x0, x1, rfl⟩
theorem list3 {α : Type} : ∀ {l : List α}, l.length = 3 → ∃ x0 x1 x2, l = [x0, x1, x2]
  | [x0, x1, x2], _ => ⟨x0, x1, x2, rfl⟩
theorem list4 {α : Type} : ∀ {l : List α}, l.length = 4 → ∃ x0 x1 x2 x3, l = [x0, x1, x2, x3]
  | [x0, x1, x2, x3], _ => ⟨x0, x1, x2, x3, rfl⟩
theorem list5 {α : Type} : ∀ {l : List α}, l.length = 5 → ∃ x0 x1 x2 x3 x4, l = [x0, x1, x2, x3, x4]
  | [x0, x1, x2, x3, x4], _ => ⟨x0, x1, x2, x3, x4, rfl⟩
theorem list6 {α : Type} : ∀ {l : List α}, l.length = 6 → ∃ x0 x1 x2 x3 x4 x5, l = [x0, x1, x2, x3, x4, x5]
  | [x0, x1, x2, x3, x4, x5], _ => ⟨x0, x1, x2, x3, x4, x5, rfl⟩
theorem list7 {α : Type} : ∀ {l : List α}, l.length = 7 → ∃ x0 x1 x2 x3 x4 x5 x6, l = [x0, x1, x2, x3, x4, x5, x6]
  | [x0, x1, x2, x3, x4, x5, x6], _ => ⟨x0, x1, x2, x3, x4, x5, x6, rfl⟩
theorem list8 {α : Type} : ∀ {l : List α}, l.length = 8 → ∃ x0 x1 x2 x3 x4 x5 x6 x7, l = [x0, x1, x2, x3, x4, x5, x6, x7]
  | [x0, x1, x2, x3, x4, x5, x6, x7], _ => ⟨x0, x1, x2, x3, x4, x5, x6, x7, rfl⟩
theorem list14 {α : Type} : ∀ {l : List α}, l.length = 14 → ∃ x0 x1 x2 x3 x4 x5 x6 x7 x8 x9 x10 x11 x12 x13, l = [x0, x1, x2, x3, x4, x5, x6, x7, x8, x9, x10, x11, x12, x13]
  | [x0, x1, x2, x3, x4, x5, x6, x7, x8, x9, x10, x11, x12, x13], _ => ⟨x0, x1, x2, x3, x4, x5, x6, x7, x8, x9, x10, x11, x12, x13, rfl⟩
theorem list15 {α : Type} : ∀ {l : List α}, l.length = 15 → ∃ x0 x1 x2 x3 x4 x5 x6 x7 x8 x9 x10 x11 x12 x13 x14, l = [x0, x1, x2, x3, x4, x5, x6, x7, x8, x9, x10, x11, x12, x13, x14]
  | [x0, x1, x2, x3, x4, x5, x6, x7, x8, x9, x10, x11, x12, x13, x14], _ => ⟨x0, x1, x2, x3, x4, x5, x6, x7, x8, x9, x10, x11, x12, x13, x14, rfl⟩
theorem list16 {α : Type} : ∀ {l : List α}, l.length = 16 → ∃ x0 x1 x2 x3 x4 x5 x6 x7 x8 x9 x10 x11 x12 x13 x14 x15, l = [x0, x1, x2, x3, x4, x5, x6, x7, x8, x9, x10, x11, x12, x13, x14, x15]
  | [x0, x1, x2, x3, x4, x5, x6, x7, x8, x9, x10, x11, x12, x13, x14, x15], _ => ⟨x0, x1, x2, x3, x4, x5, x6, x7, x8, x9, x10, x11, x12, x13, x14, x15, rfl⟩
theorem mapM_some {α β : Type} {f : α → Option β} : ∀ {l : List α} {r : List β}, l.mapM f = some r → r.length = l.length ∧ ∀ (j : Nat) (x : α), l[j]? = some x → f x = r[j]?
  | [], r, h => by
    simp at h; subst h
    exact ⟨rfl, fun j x hj => by simp at hj⟩
  | a :: l, r, h => by
    simp only [List.mapM_cons, Option.bind_eq_bind, Option.bind_eq_some_iff, Option.pure_def, Option.some.injEq] at h
    obtain ⟨y, hy, ys, hys, rfl⟩ := h
    obtain ⟨h1, h2⟩ := mapM_some hys
    refine ⟨by simp [h1], fun j x hj => ?_⟩
    cases j with
    | zero => simp only [List.getElem?_cons_zero, Option.some.injEq] at hj ⊢; subst hj; exact hy
    | succ j => simp only [List.getElem?_cons_succ] at hj ⊢; exact h2 j x hj
theorem cells_some {w : World} {base n : Nat} {a : Addr} {cs : List Value} (h : w.cells? base a n = some cs) : cs.length = n ∧ ∀ j, j < n → w.cell? (a.add j) = cs[j]? := by
  unfold World.cells? at h
  split at h
  · obtain ⟨h1, h2⟩ := mapM_some h
    rw [List.length_range] at h1
    exact ⟨h1, fun j hj => h2 j j (by rw [List.getElem?_range hj])⟩
  · cases h
/-- type t's readings are readings of α's -/
def Opens (α : Type) [GoT α] (P : Program) (t : TypeId) : Prop :=
  ∀ (H : Type) (enc : TypeId × Value → H) (w : World) (base : Nat) (held : Bool) (fuel : Nat) (cs : List Value) (x : DataW H × List MemPlace), DataW.trod enc P w base (fun _ => true) held fuel t cs = some x → ∃ d : α, RdM maxLen w cs d
theorem opens_int {P : Program} {t : TypeId} (ht : P.underlying t = some (.int .i64)) : Opens Int P t := by
  intro H enc w base held fuel cs x h
  obtain ⟨n, rfl, _, _⟩ := DataW.trod_int ht h
  exact ⟨n, [], rfl, rfl⟩
theorem choose_data {α : Type} [GoT α] {w : World} : ∀ (css : List (List Value)), (∀ cs ∈ css, ∃ d : α, RdM maxLen w cs d) → ∃ (l : List α) (fp : List Pos), l.length = css.length ∧ Els maxLen w css.flatten l fp
  | [], _ => ⟨[], [], rfl, rfl, rfl⟩
  | c :: css, h => by
    obtain ⟨d, f, hd⟩ := h c (by simp)
    obtain ⟨l, fp, hl, he⟩ := choose_data css (fun cs hc => h cs (by simp [hc]))
    exact ⟨d :: l, f ++ fp, by simp [hl], c, css.flatten, f, fp, by simp, hd, he, rfl⟩
theorem opens_slice {α : Type} [GoT α] {P : Program} {t e : TypeId} (ht : P.underlying t = some (.slice e)) (hn : P.cellsOf e = GoT.n α) (ho : Opens α P e) : Opens (List α) P t := by
  intro H enc w base held fuel cs x h
  rcases Go.Deep.open_slice ht h with ⟨rfl, _⟩ | ⟨a, len, cap, m, n, D, Pl, rfl, hb, hl, hm, hmm, _, hx⟩
  · exact ⟨[], [], _, rfl, Sl.nil⟩
  · simp only [if_true] at hmm
    subst hmm
    have hpos := GoT.pos (α := α)
    rw [hn] at hx
    by_cases hc0 : m = 0
    · subst hc0
      obtain rfl : len = 0 := by omega
      exact ⟨[], [], _, rfl, .inl ⟨_, rfl, rfl, rfl⟩⟩
    · have hspot : a.spot = none := by
        obtain ⟨cs', h1, _⟩ := hx 0 (by omega)
        obtain ⟨h2, h3⟩ := cells_some h1
        have h4 := h3 0 hpos
        rw [List.getElem?_eq_getElem (by omega)] at h4
        simp only [Nat.zero_mul, Addr.add, if_true] at h4
        unfold World.cell? at h4
        cases hsp : a.spot with
        | none => rfl
        | some s =>
          rw [hsp] at h4
          split at h4 <;> simp at h4
      obtain ⟨b, o, sp⟩ := a
      simp only at hspot
      subst hspot
      have hcell : ∀ i, i < m → ∃ cs', cs'.length = GoT.n α ∧ (∀ j, j < GoT.n α → w.cell? ⟨b, o + i * GoT.n α + j, none⟩ = cs'[j]?) ∧ ∃ d : α, RdM maxLen w cs' d := by
        intro i hi
        obtain ⟨cs', h1, h2⟩ := hx i hi
        obtain ⟨h3, h4⟩ := cells_some h1
        refine ⟨cs', h3, fun j hj => ?_, ho _ _ _ _ _ _ _ _ h2⟩
        have := h4 j hj
        rwa [Addr.add_lit, Addr.add_lit] at this
      obtain ⟨css, hcss⟩ : ∃ css : List (List Value), css.length = m ∧ ∀ i, i < m → ∃ cs', css[i]? = some cs' ∧ cs'.length = GoT.n α ∧ (∀ j, j < GoT.n α → w.cell? ⟨b, o + i * GoT.n α + j, none⟩ = cs'[j]?) ∧ ∃ d : α, RdM maxLen w cs' d := by
        refine ⟨(List.range m).map fun i => if h : i < m then Classical.choose (hcell i h) else [], by simp, fun i hi => ⟨Classical.choose (hcell i hi), ?_, Classical.choose_spec (hcell i hi)⟩⟩
        rw [List.getElem?_map, List.getElem?_range hi]
        simp [hi]
      obtain ⟨hcl, hcs⟩ := hcss
      have hlenc : ∀ c ∈ css, c.length = GoT.n α := by
        intro c hc
        obtain ⟨i, hi, rfl⟩ := List.getElem_of_mem hc
        obtain ⟨cs', h1, h2, _⟩ := hcs i (by omega)
        rw [List.getElem?_eq_getElem hi] at h1
        cases h1
        exact h2
      have hflat : ∀ (L : List (List Value)) (i : Nat) (c : List Value), (∀ c ∈ L, c.length = GoT.n α) → L[i]? = some c → ∀ j, j < GoT.n α → L.flatten[i * GoT.n α + j]? = c[j]? := by
        intro L
        induction L with
        | nil => intro i c _ h; simp at h
        | cons c0 L ih =>
          intro i c hL hi j hj
          have h0 := hL c0 (by simp)
          cases i with
          | zero =>
            simp only [List.getElem?_cons_zero, Option.some.injEq] at hi
            subst hi
            rw [List.flatten_cons, Nat.zero_mul, Nat.zero_add, List.getElem?_append_left (by omega)]
          | succ i =>
            simp only [List.getElem?_cons_succ] at hi
            rw [List.flatten_cons, List.getElem?_append_right (by rw [h0, Nat.add_mul]; omega), h0, Nat.add_mul, Nat.one_mul]
            rw [show i * GoT.n α + GoT.n α + j - GoT.n α = i * GoT.n α + j by omega]
            exact ih i c (fun c hc => hL c (by simp [hc])) hi j hj
      have hcellAll : ∀ q, q < m * GoT.n α → ∃ v, w.cell? ⟨b, o + q, none⟩ = some v ∧ css.flatten[q]? = some v := by
        intro q hq
        have hi : q / GoT.n α < m := (Nat.div_lt_iff_lt_mul hpos).2 hq
        have hj : q % GoT.n α < GoT.n α := Nat.mod_lt _ hpos
        obtain ⟨cs', h1, h2, h3, _⟩ := hcs _ hi
        have hq' : q / GoT.n α * GoT.n α + q % GoT.n α = q := by rw [Nat.mul_comm]; exact Nat.div_add_mod q _
        have h4 := h3 _ hj
        have h5 := hflat css _ cs' hlenc h1 _ hj
        rw [hq'] at h5
        rw [Nat.add_assoc, hq'] at h4
        obtain ⟨v, hv⟩ := get_some (l := cs') (k := q % GoT.n α) (by omega)
        rw [hv] at h4 h5
        exact ⟨v, h4, h5⟩
      obtain ⟨l, fp, hll, hle⟩ := choose_data (css.take len) (fun c hc => by
        obtain ⟨i, hi, rfl⟩ := List.getElem_of_mem (List.mem_of_mem_take hc)
        obtain ⟨cs', h1, _, _, h4⟩ := hcs i (by omega)
        rw [List.getElem?_eq_getElem hi] at h1
        cases h1
        exact h4)
      have hlen : l.length = len := by rw [hll, List.length_take]; omega
      refine ⟨l, own b o (m * GoT.n α) ++ fp, _, rfl, .inr ⟨b, o, m, (css.take len).flatten, fp, by rw [hlen], by omega, hm, by omega, ?_, hle, ?_, rfl⟩⟩
      · intro j v hj
        have hjl := (List.getElem?_eq_some_iff.1 hj).1
        rw [hle.length, hlen] at hjl
        have hjm : j < m * GoT.n α := Nat.lt_of_lt_of_le hjl (Nat.mul_le_mul_right _ hl)
        obtain ⟨u, h1, h2⟩ := hcellAll j hjm
        have hpre : css.flatten = (css.take len).flatten ++ (css.drop len).flatten := by rw [← List.flatten_append, List.take_append_drop]
        rw [hpre, List.getElem?_append_left (by rw [hle.length, hlen]; exact hjl), hj] at h2
        rw [h1, ← h2]
      · intro p hp
        obtain ⟨e1, e2, e3⟩ := mem_own.1 hp
        obtain ⟨v, h1, _⟩ := hcellAll (p.2 - o) (by omega)
        rw [e1, show p.2 = o + (p.2 - o) by omega, h1]
        rfl













end Go.Proofs.Ytiahgjnpinjblaa

