/- The measure that the laws take of their arguments. -/
import Derived.Test.YtihbmefidbmmdaaTo3
namespace Go.Proofs.Ytihbmefidbmmdaa
open Go.RowKit

/-- readings without a bound of ours on the lists -/
def RdM {α : Type} [GoT α] (M : Nat) (w : World) (cs : List Value) (x : α) : Prop := ∃ fp, GoT.rd M w cs x fp
def RdSM {α : Type} [GoT α] (M : Nat) (w : World) (v : Value) (l : List α) : Prop := ∃ fp, Sl M w v l fp
section
variable {α : Type} [GoT α] {M : Nat} {w w' : World} {v : Value} {l : List α}
theorem RdSM.below (h : RdSM M w v l) (hb : Below w.heap.size w w') : RdSM M w' v l := by
  obtain ⟨fp, h⟩ := h
  exact ⟨fp, h.keep (Live.same_below hb (Live.lt h.live))⟩
theorem RdSM.len (h : RdSM M w v l) {P : Program} {T E : TypeId} (hT : P.underlying T = some (.slice E)) (w1 : World) (ty : TypeId) :
    (Builtin.len_ #[T] ty #[v]).run P w1 = .ok (.int .i64 l.length) w1 := let ⟨_, h⟩ := h; h.len hT w1 ty
theorem RdSM.le (h : RdSM M w v l) : l.length ≤ 9223372036854775807 := let ⟨_, h⟩ := h; by have := h.le; unfold maxLen at this; omega
theorem RdSM.idx (h : RdSM M w v l) {P : Program} {T E : TypeId} (hT : P.underlying T = some (.slice E)) (hl : ∀ w1, (sizeOf E).run P w1 = .ok (GoT.n α) w1) (k : Nat) {x : α} (hk : l[k]? = some x) :
    ∃ b o cs, (∀ w1, (Instr.indexAt T v (.int .i64 k)).run P w1 = .ok (.pointer (some ⟨b, o, none⟩)) w1) ∧ At w b o cs ∧ RdM M w cs x := by
  obtain ⟨fp, h⟩ := h
  obtain ⟨b, o, cs, f, h1, h2, h3, _⟩ := h.idx hT hl k hk
  exact ⟨b, o, cs, h1, h2, f, h3⟩
end
/-- a datum's measure: lengths of lists and strings -/
class GoS (α : Type) [GoT α] where
  sz : α → Nat
  up : ∀ {M N : Nat} {w : World} {cs : List Value} {x : α} {fp : List Pos}, GoT.rd M w cs x fp → sz x ≤ N → GoT.rd N w cs x fp
def szs {α : Type} [GoT α] [GoS α] : List α → Nat
  | [] => 0
  | x :: xs => GoS.sz x + szs xs
def szL {α : Type} [GoT α] [GoS α] (l : List α) : Nat := l.length + szs l
section
variable {α : Type} [GoT α] [GoS α]
theorem szs_append : ∀ (a b : List α), szs (a ++ b) = szs a + szs b
  | [], b => by simp [szs]
  | x :: xs, b => by simp [szs, szs_append xs]; omega
theorem szs_take_succ {l : List α} {k : Nat} {x : α} (h : l[k]? = some x) : szs (l.take (k + 1)) = szs (l.take k) + GoS.sz x := by
  rw [take_snoc h, szs_append]; simp [szs]
theorem szs_take_le (l : List α) (k : Nat) : szs (l.take k) ≤ szs l := by
  have := szs_append (l.take k) (l.drop k)
  rw [List.take_append_drop] at this
  omega
theorem Els.up {M N : Nat} {w : World} : ∀ {l : List α} {cs : List Value} {fp : List Pos}, Els M w cs l fp → szs l ≤ N → Els N w cs l fp
  | [], _, _, h, _ => h
  | x :: xs, _, _, ⟨c1, c2, f1, f2, hc, h1, h2, hf⟩, hs => by
    simp only [szs] at hs
    exact ⟨c1, c2, f1, f2, hc, GoS.up h1 (by omega), Els.up h2 (by omega), hf⟩
theorem Sl.up {M N : Nat} {w : World} {v : Value} {l : List α} {fp : List Pos} (h : Sl M w v l fp) (hs : szL l ≤ N) : Sl N w v l fp := by
  unfold szL at hs
  rcases h with h | ⟨b, o, cap, cs, fs, rfl, h1, h2, h3, ha, he, hl, rfl⟩
  · exact .inl h
  · exact .inr ⟨b, o, cap, cs, fs, rfl, h1, h2, by omega, ha, he.up (by omega), hl, rfl⟩
end
instance : GoS Int where
  sz := fun _ => 0
  up := fun h _ => h
theorem szs_int : ∀ (l : List Int), szs l = 0
  | [] => rfl
  | x :: xs => by simp [szs, szs_int xs, GoS.sz]
theorem szL_int (l : List Int) : szL l = l.length := by simp [szL, szs_int]

instance : GoS DPart where
  sz := fun x => szL x.signs
  up := by
    rintro M N w cs x fp ⟨v_signs, f_signs, rfl, h_signs, rfl⟩ hs
    exact ⟨v_signs, _, rfl, h_signs.up (by omega), rfl⟩
instance : GoS DEntry where
  sz := fun x => szL x.o
  up := by
    rintro M N w cs x fp ⟨v_o, f_o, rfl, h_o, rfl⟩ hs
    exact ⟨v_o, _, rfl, h_o.up (by omega), rfl⟩
instance : GoS DSeen where
  sz := fun _ => 0
  up := fun h _ => h
instance : GoS DDoc where
  sz := fun x => x.name.size + szL x.text + szL x.list + szL x.seen
  up := by
    rintro M N w cs x fp ⟨v_text, v_list, v_seen, f_text, f_list, f_seen, rfl, n_name, h_text, h_list, h_seen, rfl⟩ hs
    exact ⟨v_text, v_list, v_seen, _, _, _, rfl, (by omega), h_text.up (by omega), h_list.up (by omega), h_seen.up (by omega), rfl⟩
instance : GoS DRing where
  sz := fun x => szL x.list
  up := by
    rintro M N w cs x fp ⟨v_list, f_list, rfl, h_list, rfl⟩ hs
    exact ⟨v_list, _, rfl, h_list.up (by omega), rfl⟩
instance : GoS DSub where
  sz := fun x => x.doc.size + GoS.sz x.r
  up := by
    rintro M N w cs x fp ⟨v_r, f_r, rfl, n_doc, h_r, rfl⟩ hs
    exact ⟨v_r, _, rfl, (by omega), GoS.up h_r (by omega), rfl⟩
instance : GoS DHub where
  sz := fun x => szL x.docs + szL x.subs
  up := by
    rintro M N w cs x fp ⟨v_docs, v_subs, f_docs, f_subs, rfl, h_docs, h_subs, rfl⟩ hs
    exact ⟨v_docs, v_subs, _, _, rfl, h_docs.up (by omega), h_subs.up (by omega), rfl⟩
instance : GoS DCall where
  sz := fun x => x.doc.size + szL x.o + szL x.text
  up := by
    rintro M N w cs x fp ⟨v_o, v_text, f_o, f_text, rfl, n_doc, h_o, h_text, rfl⟩ hs
    exact ⟨v_o, v_text, _, _, rfl, (by omega), h_o.up (by omega), h_text.up (by omega), rfl⟩
instance : GoS DAnswer where
  sz := fun x => szL x.text + szL x.list
  up := by
    rintro M N w cs x fp ⟨v_text, v_list, f_text, f_list, rfl, h_text, h_list, rfl⟩ hs
    exact ⟨v_text, v_list, _, _, rfl, h_text.up (by omega), h_list.up (by omega), rfl⟩
instance : GoS DTask where
  sz := fun x => GoS.sz x.c + GoS.sz x.a
  up := by
    rintro M N w cs x fp ⟨v_c, v_a, f_c, f_a, rfl, h_c, h_a, rfl⟩ hs
    exact ⟨v_c, v_a, _, _, rfl, GoS.up h_c (by omega), GoS.up h_a (by omega), rfl⟩
instance : GoS DQueue where
  sz := fun x => x.doc.size + szL x.list
  up := by
    rintro M N w cs x fp ⟨v_list, f_list, rfl, n_doc, h_list, rfl⟩ hs
    exact ⟨v_list, _, rfl, (by omega), h_list.up (by omega), rfl⟩
instance : GoS DWorld where
  sz := fun x => GoS.sz x.h + szL x.locks + szL x.queues + szL x.tasks
  up := by
    rintro M N w cs x fp ⟨v_h, v_locks, v_queues, v_tasks, f_h, f_locks, f_queues, f_tasks, rfl, h_h, h_locks, h_queues, h_tasks, rfl⟩ hs
    exact ⟨v_h, v_locks, v_queues, v_tasks, _, _, _, _, rfl, GoS.up h_h (by omega), h_locks.up (by omega), h_queues.up (by omega), h_tasks.up (by omega), rfl⟩
theorem invM_DPart {M : Nat} {w : World} {cs : List Value} {x : DPart} (h : RdM M w cs x) : ∃ v_signs, cs = [.int .i64 x.kind, .int .i64 x.n, v_signs] ∧ RdSM M w v_signs x.signs := by
  obtain ⟨fp, h⟩ := h
  obtain ⟨v_signs, f_signs, rfl, h_signs, rfl⟩ := h
  exact ⟨v_signs, rfl, ⟨_, h_signs⟩⟩
theorem invM_DEntry {M : Nat} {w : World} {cs : List Value} {x : DEntry} (h : RdM M w cs x) : ∃ v_o, cs = [.int .i64 x.client, .int .i64 x.seq, v_o] ∧ RdSM M w v_o x.o := by
  obtain ⟨fp, h⟩ := h
  obtain ⟨v_o, f_o, rfl, h_o, rfl⟩ := h
  exact ⟨v_o, rfl, ⟨_, h_o⟩⟩
theorem invM_DSeen {M : Nat} {w : World} {cs : List Value} {x : DSeen} (h : RdM M w cs x) : cs = [.int .i64 x.client, .int .i64 x.seq, .int .i64 x.rev] := by
  obtain ⟨fp, h⟩ := h
  obtain ⟨rfl, rfl⟩ := h
  exact rfl
theorem invM_DDoc {M : Nat} {w : World} {cs : List Value} {x : DDoc} (h : RdM M w cs x) : ∃ v_text v_list v_seen, cs = [.string x.name, .int .i64 x.from_, v_text, v_list, v_seen] ∧ x.name.size ≤ M ∧ RdSM M w v_text x.text ∧ RdSM M w v_list x.list ∧ RdSM M w v_seen x.seen := by
  obtain ⟨fp, h⟩ := h
  obtain ⟨v_text, v_list, v_seen, f_text, f_list, f_seen, rfl, n_name, h_text, h_list, h_seen, rfl⟩ := h
  exact ⟨v_text, v_list, v_seen, rfl, n_name, ⟨_, h_text⟩, ⟨_, h_list⟩, ⟨_, h_seen⟩⟩
theorem invM_DRing {M : Nat} {w : World} {cs : List Value} {x : DRing} (h : RdM M w cs x) : ∃ v_list, cs = [.int .i64 x.cap, .int .i64 x.next, .bool x.out, v_list] ∧ RdSM M w v_list x.list := by
  obtain ⟨fp, h⟩ := h
  obtain ⟨v_list, f_list, rfl, h_list, rfl⟩ := h
  exact ⟨v_list, rfl, ⟨_, h_list⟩⟩
theorem invM_DSub {M : Nat} {w : World} {cs : List Value} {x : DSub} (h : RdM M w cs x) : ∃ v_r_list, cs = [.int .i64 x.id, .string x.doc, .int .i64 x.r.cap, .int .i64 x.r.next, .bool x.r.out, v_r_list] ∧ x.doc.size ≤ M ∧ RdSM M w v_r_list x.r.list := by
  obtain ⟨fp, h⟩ := h
  obtain ⟨c_r, f_r, rfl, n_doc, h_r, rfl⟩ := h
  obtain ⟨v_r_list, f_r_list, rfl, h_r_list, rfl⟩ := h_r
  exact ⟨v_r_list, rfl, n_doc, ⟨_, h_r_list⟩⟩
theorem invM_DHub {M : Nat} {w : World} {cs : List Value} {x : DHub} (h : RdM M w cs x) : ∃ v_docs v_subs, cs = [.bool x.shut, v_docs, v_subs, .int .i64 x.last] ∧ RdSM M w v_docs x.docs ∧ RdSM M w v_subs x.subs := by
  obtain ⟨fp, h⟩ := h
  obtain ⟨v_docs, v_subs, f_docs, f_subs, rfl, h_docs, h_subs, rfl⟩ := h
  exact ⟨v_docs, v_subs, rfl, ⟨_, h_docs⟩, ⟨_, h_subs⟩⟩
theorem invM_DCall {M : Nat} {w : World} {cs : List Value} {x : DCall} (h : RdM M w cs x) : ∃ v_o v_text, cs = [.int .i64 x.kind, .string x.doc, .int .i64 x.client, .int .i64 x.seq, .int .i64 x.n, v_o, v_text] ∧ x.doc.size ≤ M ∧ RdSM M w v_o x.o ∧ RdSM M w v_text x.text := by
  obtain ⟨fp, h⟩ := h
  obtain ⟨v_o, v_text, f_o, f_text, rfl, n_doc, h_o, h_text, rfl⟩ := h
  exact ⟨v_o, v_text, rfl, n_doc, ⟨_, h_o⟩, ⟨_, h_text⟩⟩
theorem invM_DAnswer {M : Nat} {w : World} {cs : List Value} {x : DAnswer} (h : RdM M w cs x) : ∃ v_text v_list, cs = [.int .i64 x.code, .int .i64 x.rev, v_text, v_list] ∧ RdSM M w v_text x.text ∧ RdSM M w v_list x.list := by
  obtain ⟨fp, h⟩ := h
  obtain ⟨v_text, v_list, f_text, f_list, rfl, h_text, h_list, rfl⟩ := h
  exact ⟨v_text, v_list, rfl, ⟨_, h_text⟩, ⟨_, h_list⟩⟩
theorem invM_DTask {M : Nat} {w : World} {cs : List Value} {x : DTask} (h : RdM M w cs x) : ∃ v_c_o v_c_text v_a_text v_a_list, cs = [.int .i64 x.c.kind, .string x.c.doc, .int .i64 x.c.client, .int .i64 x.c.seq, .int .i64 x.c.n, v_c_o, v_c_text, .int .i64 x.pc, .int .i64 x.inv, .int .i64 x.lin, .int .i64 x.res, .int .i64 x.a.code, .int .i64 x.a.rev, v_a_text, v_a_list] ∧ x.c.doc.size ≤ M ∧ RdSM M w v_c_o x.c.o ∧ RdSM M w v_c_text x.c.text ∧ RdSM M w v_a_text x.a.text ∧ RdSM M w v_a_list x.a.list := by
  obtain ⟨fp, h⟩ := h
  obtain ⟨c_c, c_a, f_c, f_a, rfl, h_c, h_a, rfl⟩ := h
  obtain ⟨v_c_o, v_c_text, f_c_o, f_c_text, rfl, n_c_doc, h_c_o, h_c_text, rfl⟩ := h_c
  obtain ⟨v_a_text, v_a_list, f_a_text, f_a_list, rfl, h_a_text, h_a_list, rfl⟩ := h_a
  exact ⟨v_c_o, v_c_text, v_a_text, v_a_list, rfl, n_c_doc, ⟨_, h_c_o⟩, ⟨_, h_c_text⟩, ⟨_, h_a_text⟩, ⟨_, h_a_list⟩⟩
theorem invM_DQueue {M : Nat} {w : World} {cs : List Value} {x : DQueue} (h : RdM M w cs x) : ∃ v_list, cs = [.string x.doc, v_list] ∧ x.doc.size ≤ M ∧ RdSM M w v_list x.list := by
  obtain ⟨fp, h⟩ := h
  obtain ⟨v_list, f_list, rfl, n_doc, h_list, rfl⟩ := h
  exact ⟨v_list, rfl, n_doc, ⟨_, h_list⟩⟩
theorem invM_DWorld {M : Nat} {w : World} {cs : List Value} {x : DWorld} (h : RdM M w cs x) : ∃ v_h_docs v_h_subs v_locks v_queues v_tasks, cs = [.bool x.h.shut, v_h_docs, v_h_subs, .int .i64 x.h.last, v_locks, v_queues, v_tasks, .int .i64 x.step] ∧ RdSM M w v_h_docs x.h.docs ∧ RdSM M w v_h_subs x.h.subs ∧ RdSM M w v_locks x.locks ∧ RdSM M w v_queues x.queues ∧ RdSM M w v_tasks x.tasks := by
  obtain ⟨fp, h⟩ := h
  obtain ⟨c_h, v_locks, v_queues, v_tasks, f_h, f_locks, f_queues, f_tasks, rfl, h_h, h_locks, h_queues, h_tasks, rfl⟩ := h
  obtain ⟨v_h_docs, v_h_subs, f_h_docs, f_h_subs, rfl, h_h_docs, h_h_subs, rfl⟩ := h_h
  exact ⟨v_h_docs, v_h_subs, v_locks, v_queues, v_tasks, rfl, ⟨_, h_h_docs⟩, ⟨_, h_h_subs⟩, ⟨_, h_locks⟩, ⟨_, h_queues⟩, ⟨_, h_tasks⟩⟩
theorem szIntS_c2 (v : Value) (l : List Int) (w : World) (left : Int) (g0 : 0 ≤ left) (g1 : left ≤ 1048576) (h : RdSM maxLen w v l) :
    Calls Try.prog 79 #[v, .int .i64 left] w (Tells w (.int .i64 (less left (szL l)))) := by
  obtain ⟨fp, h⟩ := h
  rw [szL_int]
  exact szIntS_c maxLen v l fp w left g0 g1 h
end Go.Proofs.Ytihbmefidbmmdaa
