/- Readings of structs, taken apart into their slices and put together. -/
import Derived.Test.YtihbmefidbmmdaaMark
namespace Go.Proofs.Ytihbmefidbmmdaa
open Go.RowKit

/-- memory of one's own between two block numbers -/
def OwnB {α : Type} [GoT α] (C D : Nat) (w : World) (v : Value) (l : List α) : Prop := ∃ fp, Sl BIG w v l fp ∧ Fresh C w fp ∧ ∀ p ∈ fp, p.1 < D
theorem OwnS.bd {α : Type} [GoT α] {C : Nat} {w : World} {v : Value} {l : List α} (h : OwnS C w v l) : OwnB C w.heap.size w v l := let ⟨fp, h, k⟩ := h; ⟨fp, h, k, Live.lt h.live⟩
section
variable {α : Type} [GoT α] {C D : Nat} {w w' : World} {v : Value} {l : List α}
theorem OwnB.own (h : OwnB C D w v l) : OwnS C w v l := let ⟨fp, h, k, _⟩ := h; ⟨fp, h, k⟩
theorem OwnB.nil (C D : Nat) (w : World) : OwnB (α := α) C D w (.slice none 0 0) [] := ⟨[], Sl.nil, ⟨List.nodup_nil, fun _ h => (by cases h), fun _ h => (by cases h)⟩, fun _ h => (by cases h)⟩
theorem OwnS.ex {α : Type} [GoT α] {C m : Nat} {w : World} {v : Value} {l : List α} (h : OwnS C w v l) (hm : m ≤ C) (hs : C ≤ w.heap.size) : ∃ C' D', OwnB C' D' w v l ∧ m ≤ C' ∧ D' ≤ w.heap.size ∧ C' ≤ D' :=
  ⟨C, w.heap.size, h.bd, hm, Nat.le_refl _, hs⟩
theorem OwnB.block (h : OwnB C D w v l) (hs : ∀ k, C ≤ k → k < D → w'.heap[k]? = w.heap[k]?) : OwnB C D w' v l := by
  obtain ⟨fp, h, k, hd⟩ := h
  have hb : ∀ p ∈ fp, w'.heap[p.1]? = w.heap[p.1]? := fun p hp => hs p.1 (k.ge p hp) (hd p hp)
  exact ⟨fp, h.keep fun p hp => World.cell?_of_block (w := w) (a := ⟨p.1, p.2, none⟩) (hb p hp), ⟨k.nodup, k.ge, fun p hp => by
    rw [World.frozen?_of_block (w := w) (a := ⟨p.1, p.2, none⟩) (hb p hp)]; exact k.free p hp⟩, hd⟩
theorem OwnB.below (h : OwnB C D w v l) (hb : Below w.heap.size w w') : OwnB C D w' v l := by
  obtain ⟨fp, h, k, hd⟩ := h
  have hlt := Live.lt h.live
  exact ⟨fp, h.keep (Live.same_below hb hlt), k.below hb hlt, hd⟩
theorem OwnB.setCell {b o : Nat} (h : OwnB C D w v l) (hp : b < C ∨ D ≤ b) (u : Value) : OwnB C D (w.setCell ⟨b, o, none⟩ u) v l := h.block fun k h1 h2 => Below.heap_setCell w ⟨b, o, none⟩ u k (by show k ≠ b; omega)
theorem OwnB.alloc (h : OwnB C D w v l) (o : Obj) : OwnB C D (w.alloc o) v l := h.below ((Below.refl _ _).alloc (Nat.le_refl _) o)
theorem OwnB.drew (h : OwnB C D w v l) : OwnB C D w.drew v l := h.block fun _ _ _ => rfl
theorem OwnB.drewN (h : OwnB C D w v l) (n : Nat) : OwnB C D (w.drewN n) v l := h.block fun _ _ _ => rfl
theorem Fresh.join {B : Nat} {f1 f2 : List Pos} (h1 : Fresh B w f1) (h2 : Fresh B w f2) (hd : ∀ p ∈ f1, ∀ q ∈ f2, p ≠ q) : Fresh B w (f1 ++ f2) := by
  refine ⟨List.nodup_append.2 ⟨h1.nodup, h2.nodup, hd⟩, fun p hp => ?_, fun p hp => ?_⟩ <;> rcases List.mem_append.1 hp with hp | hp
  · exact h1.ge p hp
  · exact h2.ge p hp
  · exact h1.free p hp
  · exact h2.free p hp
theorem Fresh.left {B : Nat} {f1 f2 : List Pos} (h : Fresh B w (f1 ++ f2)) : Fresh B w f1 := ⟨(List.nodup_append.1 h.nodup).1, fun p hp => h.ge p (List.mem_append.2 (.inl hp)), fun p hp => h.free p (List.mem_append.2 (.inl hp))⟩
theorem Fresh.right {B : Nat} {f1 f2 : List Pos} (h : Fresh B w (f1 ++ f2)) : Fresh B w f2 := ⟨(List.nodup_append.1 h.nodup).2.1, fun p hp => h.ge p (List.mem_append.2 (.inr hp)), fun p hp => h.free p (List.mem_append.2 (.inr hp))⟩
theorem Fresh.nil (B : Nat) (w : World) : Fresh B w [] := ⟨List.nodup_nil, fun _ h => (by cases h), fun _ h => (by cases h)⟩
end

theorem inv_DPart {w : World} {cs : List Value} {x : DPart} (h : Rd w cs x) : ∃ v_signs, cs = [.int .i64 x.kind, .int .i64 x.n, v_signs] ∧ RdS w v_signs x.signs := by
  obtain ⟨fp, h⟩ := h
  obtain ⟨v_signs, f_signs, rfl, h_signs, rfl⟩ := h
  exact ⟨v_signs, rfl, ⟨_, h_signs⟩⟩
theorem mk_DPart {w : World} (x : DPart) {v_signs : Value}  (h_signs : RdS w v_signs x.signs) : Rd w [.int .i64 x.kind, .int .i64 x.n, v_signs] x := by
  obtain ⟨f_signs, h_signs⟩ := h_signs
  exact ⟨_, ⟨v_signs, f_signs, rfl, h_signs, rfl⟩⟩
theorem own_DPart {B C0 D0 : Nat} {w : World} (x : DPart) {v_signs : Value}  (h_signs : OwnB C0 D0 w v_signs x.signs)   (g0 : B ≤ C0) : Own B w [.int .i64 x.kind, .int .i64 x.n, v_signs] x := by
  obtain ⟨f_signs, s_signs, k_signs, d_signs⟩ := h_signs
  exact ⟨_, ⟨v_signs, f_signs, rfl, s_signs, rfl⟩, (k_signs.mono g0)⟩
theorem inv_own_DPart {C : Nat} {w : World} {cs : List Value} {x : DPart} (h : Own C w cs x) : ∃ v_signs, cs = [.int .i64 x.kind, .int .i64 x.n, v_signs] ∧ OwnS C w v_signs x.signs := by
  obtain ⟨fp, h, k⟩ := h
  obtain ⟨v_signs, f_signs, rfl, h_signs, rfl⟩ := h
  exact ⟨v_signs, rfl, ⟨_, h_signs, k⟩⟩

theorem inv_DEntry {w : World} {cs : List Value} {x : DEntry} (h : Rd w cs x) : ∃ v_o, cs = [.int .i64 x.client, .int .i64 x.seq, v_o] ∧ RdS w v_o x.o := by
  obtain ⟨fp, h⟩ := h
  obtain ⟨v_o, f_o, rfl, h_o, rfl⟩ := h
  exact ⟨v_o, rfl, ⟨_, h_o⟩⟩
theorem mk_DEntry {w : World} (x : DEntry) {v_o : Value}  (h_o : RdS w v_o x.o) : Rd w [.int .i64 x.client, .int .i64 x.seq, v_o] x := by
  obtain ⟨f_o, h_o⟩ := h_o
  exact ⟨_, ⟨v_o, f_o, rfl, h_o, rfl⟩⟩
theorem own_DEntry {B C0 D0 : Nat} {w : World} (x : DEntry) {v_o : Value}  (h_o : OwnB C0 D0 w v_o x.o)   (g0 : B ≤ C0) : Own B w [.int .i64 x.client, .int .i64 x.seq, v_o] x := by
  obtain ⟨f_o, s_o, k_o, d_o⟩ := h_o
  exact ⟨_, ⟨v_o, f_o, rfl, s_o, rfl⟩, (k_o.mono g0)⟩
theorem inv_own_DEntry {C : Nat} {w : World} {cs : List Value} {x : DEntry} (h : Own C w cs x) : ∃ v_o, cs = [.int .i64 x.client, .int .i64 x.seq, v_o] ∧ OwnS C w v_o x.o := by
  obtain ⟨fp, h, k⟩ := h
  obtain ⟨v_o, f_o, rfl, h_o, rfl⟩ := h
  exact ⟨v_o, rfl, ⟨_, h_o, k⟩⟩

theorem inv_DSeen {w : World} {cs : List Value} {x : DSeen} (h : Rd w cs x) : cs = [.int .i64 x.client, .int .i64 x.seq, .int .i64 x.rev] := by
  obtain ⟨fp, h⟩ := h
  obtain ⟨rfl, rfl⟩ := h
  exact rfl
theorem mk_DSeen {w : World} (x : DSeen)    : Rd w [.int .i64 x.client, .int .i64 x.seq, .int .i64 x.rev] x := by
  exact ⟨_, ⟨rfl, rfl⟩⟩
theorem own_DSeen {B : Nat} {w : World} (x : DSeen) : Own B w [.int .i64 x.client, .int .i64 x.seq, .int .i64 x.rev] x := ⟨[], ⟨rfl, rfl⟩, Fresh.nil B w⟩

theorem inv_DDoc {w : World} {cs : List Value} {x : DDoc} (h : Rd w cs x) : ∃ v_text v_list v_seen, cs = [.string x.name, .int .i64 x.from_, v_text, v_list, v_seen] ∧ x.name.size ≤ BIG ∧ RdS w v_text x.text ∧ RdS w v_list x.list ∧ RdS w v_seen x.seen := by
  obtain ⟨fp, h⟩ := h
  obtain ⟨v_text, v_list, v_seen, f_text, f_list, f_seen, rfl, n_name, h_text, h_list, h_seen, rfl⟩ := h
  exact ⟨v_text, v_list, v_seen, rfl, n_name, ⟨_, h_text⟩, ⟨_, h_list⟩, ⟨_, h_seen⟩⟩
theorem mk_DDoc {w : World} (x : DDoc) {v_text : Value} {v_list : Value} {v_seen : Value} (n_name : x.name.size ≤ BIG) (h_text : RdS w v_text x.text) (h_list : RdS w v_list x.list) (h_seen : RdS w v_seen x.seen) : Rd w [.string x.name, .int .i64 x.from_, v_text, v_list, v_seen] x := by
  obtain ⟨f_text, h_text⟩ := h_text
  obtain ⟨f_list, h_list⟩ := h_list
  obtain ⟨f_seen, h_seen⟩ := h_seen
  exact ⟨_, ⟨v_text, v_list, v_seen, f_text, f_list, f_seen, rfl, n_name, h_text, h_list, h_seen, rfl⟩⟩
theorem own_DDoc {B C0 D0 C1 D1 C2 D2 : Nat} {w : World} (x : DDoc) {v_text : Value} {v_list : Value} {v_seen : Value} (n_name : x.name.size ≤ BIG) (h_text : OwnB C0 D0 w v_text x.text) (h_list : OwnB C1 D1 w v_list x.list) (h_seen : OwnB C2 D2 w v_seen x.seen) (e0 : D0 ≤ C1) (e1 : D1 ≤ C2) (m1 : C1 ≤ D1) (g0 : B ≤ C0) (g1 : B ≤ C1) (g2 : B ≤ C2) : Own B w [.string x.name, .int .i64 x.from_, v_text, v_list, v_seen] x := by
  obtain ⟨f_text, s_text, k_text, d_text⟩ := h_text
  obtain ⟨f_list, s_list, k_list, d_list⟩ := h_list
  obtain ⟨f_seen, s_seen, k_seen, d_seen⟩ := h_seen
  exact ⟨_, ⟨v_text, v_list, v_seen, f_text, f_list, f_seen, rfl, n_name, s_text, s_list, s_seen, rfl⟩, ((k_text.mono g0).join ((k_list.mono g1).join (k_seen.mono g2) (fun p hp q hq e => by subst e; (try simp only [List.mem_append] at hp); (try simp only [List.mem_append] at hq); (first | (have := d_list _ hp; have := k_seen.ge _ hq; omega)))) (fun p hp q hq e => by subst e; (try simp only [List.mem_append] at hp); (try simp only [List.mem_append] at hq); rcases hq with hq | hq <;> (first | (have := d_text _ hp; have := k_list.ge _ hq; omega) | (have := d_text _ hp; have := k_seen.ge _ hq; omega))))⟩
theorem inv_own_DDoc {C : Nat} {w : World} {cs : List Value} {x : DDoc} (h : Own C w cs x) : ∃ v_text v_list v_seen, cs = [.string x.name, .int .i64 x.from_, v_text, v_list, v_seen] ∧ x.name.size ≤ BIG ∧ OwnS C w v_text x.text ∧ OwnS C w v_list x.list ∧ OwnS C w v_seen x.seen := by
  obtain ⟨fp, h, k⟩ := h
  obtain ⟨v_text, v_list, v_seen, f_text, f_list, f_seen, rfl, n_name, h_text, h_list, h_seen, rfl⟩ := h
  exact ⟨v_text, v_list, v_seen, rfl, n_name, ⟨_, h_text, k.left⟩, ⟨_, h_list, k.right.left⟩, ⟨_, h_seen, k.right.right⟩⟩

theorem inv_DRing {w : World} {cs : List Value} {x : DRing} (h : Rd w cs x) : ∃ v_list, cs = [.int .i64 x.cap, .int .i64 x.next, .bool x.out, v_list] ∧ RdS w v_list x.list := by
  obtain ⟨fp, h⟩ := h
  obtain ⟨v_list, f_list, rfl, h_list, rfl⟩ := h
  exact ⟨v_list, rfl, ⟨_, h_list⟩⟩
theorem mk_DRing {w : World} (x : DRing) {v_list : Value}  (h_list : RdS w v_list x.list) : Rd w [.int .i64 x.cap, .int .i64 x.next, .bool x.out, v_list] x := by
  obtain ⟨f_list, h_list⟩ := h_list
  exact ⟨_, ⟨v_list, f_list, rfl, h_list, rfl⟩⟩
theorem own_DRing {B C0 D0 : Nat} {w : World} (x : DRing) {v_list : Value}  (h_list : OwnB C0 D0 w v_list x.list)   (g0 : B ≤ C0) : Own B w [.int .i64 x.cap, .int .i64 x.next, .bool x.out, v_list] x := by
  obtain ⟨f_list, s_list, k_list, d_list⟩ := h_list
  exact ⟨_, ⟨v_list, f_list, rfl, s_list, rfl⟩, (k_list.mono g0)⟩
theorem inv_own_DRing {C : Nat} {w : World} {cs : List Value} {x : DRing} (h : Own C w cs x) : ∃ v_list, cs = [.int .i64 x.cap, .int .i64 x.next, .bool x.out, v_list] ∧ OwnS C w v_list x.list := by
  obtain ⟨fp, h, k⟩ := h
  obtain ⟨v_list, f_list, rfl, h_list, rfl⟩ := h
  exact ⟨v_list, rfl, ⟨_, h_list, k⟩⟩

theorem inv_DSub {w : World} {cs : List Value} {x : DSub} (h : Rd w cs x) : ∃ v_r_list, cs = [.int .i64 x.id, .string x.doc, .int .i64 x.r.cap, .int .i64 x.r.next, .bool x.r.out, v_r_list] ∧ x.doc.size ≤ BIG ∧ RdS w v_r_list x.r.list := by
  obtain ⟨fp, h⟩ := h
  obtain ⟨c_r, f_r, rfl, n_doc, h_r, rfl⟩ := h
  obtain ⟨v_r_list, f_r_list, rfl, h_r_list, rfl⟩ := h_r
  exact ⟨v_r_list, rfl, n_doc, ⟨_, h_r_list⟩⟩
theorem mk_DSub {w : World} (x : DSub) {v_r_list : Value} (n_doc : x.doc.size ≤ BIG) (h_r_list : RdS w v_r_list x.r.list) : Rd w [.int .i64 x.id, .string x.doc, .int .i64 x.r.cap, .int .i64 x.r.next, .bool x.r.out, v_r_list] x := by
  obtain ⟨f_r_list, h_r_list⟩ := h_r_list
  exact ⟨_, ⟨_, _, rfl, n_doc, ⟨v_r_list, f_r_list, rfl, h_r_list, rfl⟩, rfl⟩⟩
theorem own_DSub {B C0 D0 : Nat} {w : World} (x : DSub) {v_r_list : Value} (n_doc : x.doc.size ≤ BIG) (h_r_list : OwnB C0 D0 w v_r_list x.r.list)   (g0 : B ≤ C0) : Own B w [.int .i64 x.id, .string x.doc, .int .i64 x.r.cap, .int .i64 x.r.next, .bool x.r.out, v_r_list] x := by
  obtain ⟨f_r_list, s_r_list, k_r_list, d_r_list⟩ := h_r_list
  exact ⟨_, ⟨_, _, rfl, n_doc, ⟨v_r_list, f_r_list, rfl, s_r_list, rfl⟩, rfl⟩, (k_r_list.mono g0)⟩
theorem inv_own_DSub {C : Nat} {w : World} {cs : List Value} {x : DSub} (h : Own C w cs x) : ∃ v_r_list, cs = [.int .i64 x.id, .string x.doc, .int .i64 x.r.cap, .int .i64 x.r.next, .bool x.r.out, v_r_list] ∧ x.doc.size ≤ BIG ∧ OwnS C w v_r_list x.r.list := by
  obtain ⟨fp, h, k⟩ := h
  obtain ⟨c_r, f_r, rfl, n_doc, h_r, rfl⟩ := h
  obtain ⟨v_r_list, f_r_list, rfl, h_r_list, rfl⟩ := h_r
  exact ⟨v_r_list, rfl, n_doc, ⟨_, h_r_list, k⟩⟩

theorem inv_DHub {w : World} {cs : List Value} {x : DHub} (h : Rd w cs x) : ∃ v_docs v_subs, cs = [.bool x.shut, v_docs, v_subs, .int .i64 x.last] ∧ RdS w v_docs x.docs ∧ RdS w v_subs x.subs := by
  obtain ⟨fp, h⟩ := h
  obtain ⟨v_docs, v_subs, f_docs, f_subs, rfl, h_docs, h_subs, rfl⟩ := h
  exact ⟨v_docs, v_subs, rfl, ⟨_, h_docs⟩, ⟨_, h_subs⟩⟩
theorem mk_DHub {w : World} (x : DHub) {v_docs : Value} {v_subs : Value}  (h_docs : RdS w v_docs x.docs) (h_subs : RdS w v_subs x.subs) : Rd w [.bool x.shut, v_docs, v_subs, .int .i64 x.last] x := by
  obtain ⟨f_docs, h_docs⟩ := h_docs
  obtain ⟨f_subs, h_subs⟩ := h_subs
  exact ⟨_, ⟨v_docs, v_subs, f_docs, f_subs, rfl, h_docs, h_subs, rfl⟩⟩
theorem own_DHub {B C0 D0 C1 D1 : Nat} {w : World} (x : DHub) {v_docs : Value} {v_subs : Value}  (h_docs : OwnB C0 D0 w v_docs x.docs) (h_subs : OwnB C1 D1 w v_subs x.subs) (e0 : D0 ≤ C1)  (g0 : B ≤ C0) (g1 : B ≤ C1) : Own B w [.bool x.shut, v_docs, v_subs, .int .i64 x.last] x := by
  obtain ⟨f_docs, s_docs, k_docs, d_docs⟩ := h_docs
  obtain ⟨f_subs, s_subs, k_subs, d_subs⟩ := h_subs
  exact ⟨_, ⟨v_docs, v_subs, f_docs, f_subs, rfl, s_docs, s_subs, rfl⟩, ((k_docs.mono g0).join (k_subs.mono g1) (fun p hp q hq e => by subst e; (try simp only [List.mem_append] at hp); (try simp only [List.mem_append] at hq); (first | (have := d_docs _ hp; have := k_subs.ge _ hq; omega))))⟩
theorem inv_own_DHub {C : Nat} {w : World} {cs : List Value} {x : DHub} (h : Own C w cs x) : ∃ v_docs v_subs, cs = [.bool x.shut, v_docs, v_subs, .int .i64 x.last] ∧ OwnS C w v_docs x.docs ∧ OwnS C w v_subs x.subs := by
  obtain ⟨fp, h, k⟩ := h
  obtain ⟨v_docs, v_subs, f_docs, f_subs, rfl, h_docs, h_subs, rfl⟩ := h
  exact ⟨v_docs, v_subs, rfl, ⟨_, h_docs, k.left⟩, ⟨_, h_subs, k.right⟩⟩

theorem inv_DCall {w : World} {cs : List Value} {x : DCall} (h : Rd w cs x) : ∃ v_o v_text, cs = [.int .i64 x.kind, .string x.doc, .int .i64 x.client, .int .i64 x.seq, .int .i64 x.n, v_o, v_text] ∧ x.doc.size ≤ BIG ∧ RdS w v_o x.o ∧ RdS w v_text x.text := by
  obtain ⟨fp, h⟩ := h
  obtain ⟨v_o, v_text, f_o, f_text, rfl, n_doc, h_o, h_text, rfl⟩ := h
  exact ⟨v_o, v_text, rfl, n_doc, ⟨_, h_o⟩, ⟨_, h_text⟩⟩
theorem mk_DCall {w : World} (x : DCall) {v_o : Value} {v_text : Value} (n_doc : x.doc.size ≤ BIG) (h_o : RdS w v_o x.o) (h_text : RdS w v_text x.text) : Rd w [.int .i64 x.kind, .string x.doc, .int .i64 x.client, .int .i64 x.seq, .int .i64 x.n, v_o, v_text] x := by
  obtain ⟨f_o, h_o⟩ := h_o
  obtain ⟨f_text, h_text⟩ := h_text
  exact ⟨_, ⟨v_o, v_text, f_o, f_text, rfl, n_doc, h_o, h_text, rfl⟩⟩
theorem own_DCall {B C0 D0 C1 D1 : Nat} {w : World} (x : DCall) {v_o : Value} {v_text : Value} (n_doc : x.doc.size ≤ BIG) (h_o : OwnB C0 D0 w v_o x.o) (h_text : OwnB C1 D1 w v_text x.text) (e0 : D0 ≤ C1)  (g0 : B ≤ C0) (g1 : B ≤ C1) : Own B w [.int .i64 x.kind, .string x.doc, .int .i64 x.client, .int .i64 x.seq, .int .i64 x.n, v_o, v_text] x := by
  obtain ⟨f_o, s_o, k_o, d_o⟩ := h_o
  obtain ⟨f_text, s_text, k_text, d_text⟩ := h_text
  exact ⟨_, ⟨v_o, v_text, f_o, f_text, rfl, n_doc, s_o, s_text, rfl⟩, ((k_o.mono g0).join (k_text.mono g1) (fun p hp q hq e => by subst e; (try simp only [List.mem_append] at hp); (try simp only [List.mem_append] at hq); (first | (have := d_o _ hp; have := k_text.ge _ hq; omega))))⟩
theorem inv_own_DCall {C : Nat} {w : World} {cs : List Value} {x : DCall} (h : Own C w cs x) : ∃ v_o v_text, cs = [.int .i64 x.kind, .string x.doc, .int .i64 x.client, .int .i64 x.seq, .int .i64 x.n, v_o, v_text] ∧ x.doc.size ≤ BIG ∧ OwnS C w v_o x.o ∧ OwnS C w v_text x.text := by
  obtain ⟨fp, h, k⟩ := h
  obtain ⟨v_o, v_text, f_o, f_text, rfl, n_doc, h_o, h_text, rfl⟩ := h
  exact ⟨v_o, v_text, rfl, n_doc, ⟨_, h_o, k.left⟩, ⟨_, h_text, k.right⟩⟩

theorem inv_DAnswer {w : World} {cs : List Value} {x : DAnswer} (h : Rd w cs x) : ∃ v_text v_list, cs = [.int .i64 x.code, .int .i64 x.rev, v_text, v_list] ∧ RdS w v_text x.text ∧ RdS w v_list x.list := by
  obtain ⟨fp, h⟩ := h
  obtain ⟨v_text, v_list, f_text, f_list, rfl, h_text, h_list, rfl⟩ := h
  exact ⟨v_text, v_list, rfl, ⟨_, h_text⟩, ⟨_, h_list⟩⟩
theorem mk_DAnswer {w : World} (x : DAnswer) {v_text : Value} {v_list : Value}  (h_text : RdS w v_text x.text) (h_list : RdS w v_list x.list) : Rd w [.int .i64 x.code, .int .i64 x.rev, v_text, v_list] x := by
  obtain ⟨f_text, h_text⟩ := h_text
  obtain ⟨f_list, h_list⟩ := h_list
  exact ⟨_, ⟨v_text, v_list, f_text, f_list, rfl, h_text, h_list, rfl⟩⟩
theorem own_DAnswer {B C0 D0 C1 D1 : Nat} {w : World} (x : DAnswer) {v_text : Value} {v_list : Value}  (h_text : OwnB C0 D0 w v_text x.text) (h_list : OwnB C1 D1 w v_list x.list) (e0 : D0 ≤ C1)  (g0 : B ≤ C0) (g1 : B ≤ C1) : Own B w [.int .i64 x.code, .int .i64 x.rev, v_text, v_list] x := by
  obtain ⟨f_text, s_text, k_text, d_text⟩ := h_text
  obtain ⟨f_list, s_list, k_list, d_list⟩ := h_list
  exact ⟨_, ⟨v_text, v_list, f_text, f_list, rfl, s_text, s_list, rfl⟩, ((k_text.mono g0).join (k_list.mono g1) (fun p hp q hq e => by subst e; (try simp only [List.mem_append] at hp); (try simp only [List.mem_append] at hq); (first | (have := d_text _ hp; have := k_list.ge _ hq; omega))))⟩
theorem inv_own_DAnswer {C : Nat} {w : World} {cs : List Value} {x : DAnswer} (h : Own C w cs x) : ∃ v_text v_list, cs = [.int .i64 x.code, .int .i64 x.rev, v_text, v_list] ∧ OwnS C w v_text x.text ∧ OwnS C w v_list x.list := by
  obtain ⟨fp, h, k⟩ := h
  obtain ⟨v_text, v_list, f_text, f_list, rfl, h_text, h_list, rfl⟩ := h
  exact ⟨v_text, v_list, rfl, ⟨_, h_text, k.left⟩, ⟨_, h_list, k.right⟩⟩

theorem inv_DTask {w : World} {cs : List Value} {x : DTask} (h : Rd w cs x) : ∃ v_c_o v_c_text v_a_text v_a_list, cs = [.int .i64 x.c.kind, .string x.c.doc, .int .i64 x.c.client, .int .i64 x.c.seq, .int .i64 x.c.n, v_c_o, v_c_text, .int .i64 x.pc, .int .i64 x.inv, .int .i64 x.lin, .int .i64 x.res, .int .i64 x.a.code, .int .i64 x.a.rev, v_a_text, v_a_list] ∧ x.c.doc.size ≤ BIG ∧ RdS w v_c_o x.c.o ∧ RdS w v_c_text x.c.text ∧ RdS w v_a_text x.a.text ∧ RdS w v_a_list x.a.list := by
  obtain ⟨fp, h⟩ := h
  obtain ⟨c_c, c_a, f_c, f_a, rfl, h_c, h_a, rfl⟩ := h
  obtain ⟨v_c_o, v_c_text, f_c_o, f_c_text, rfl, n_c_doc, h_c_o, h_c_text, rfl⟩ := h_c
  obtain ⟨v_a_text, v_a_list, f_a_text, f_a_list, rfl, h_a_text, h_a_list, rfl⟩ := h_a
  exact ⟨v_c_o, v_c_text, v_a_text, v_a_list, rfl, n_c_doc, ⟨_, h_c_o⟩, ⟨_, h_c_text⟩, ⟨_, h_a_text⟩, ⟨_, h_a_list⟩⟩
theorem mk_DTask {w : World} (x : DTask) {v_c_o : Value} {v_c_text : Value} {v_a_text : Value} {v_a_list : Value} (n_c_doc : x.c.doc.size ≤ BIG) (h_c_o : RdS w v_c_o x.c.o) (h_c_text : RdS w v_c_text x.c.text) (h_a_text : RdS w v_a_text x.a.text) (h_a_list : RdS w v_a_list x.a.list) : Rd w [.int .i64 x.c.kind, .string x.c.doc, .int .i64 x.c.client, .int .i64 x.c.seq, .int .i64 x.c.n, v_c_o, v_c_text, .int .i64 x.pc, .int .i64 x.inv, .int .i64 x.lin, .int .i64 x.res, .int .i64 x.a.code, .int .i64 x.a.rev, v_a_text, v_a_list] x := by
  obtain ⟨f_c_o, h_c_o⟩ := h_c_o
  obtain ⟨f_c_text, h_c_text⟩ := h_c_text
  obtain ⟨f_a_text, h_a_text⟩ := h_a_text
  obtain ⟨f_a_list, h_a_list⟩ := h_a_list
  exact ⟨_, ⟨_, _, _, _, rfl, ⟨v_c_o, v_c_text, f_c_o, f_c_text, rfl, n_c_doc, h_c_o, h_c_text, rfl⟩, ⟨v_a_text, v_a_list, f_a_text, f_a_list, rfl, h_a_text, h_a_list, rfl⟩, rfl⟩⟩
theorem own_DTask {B C0 D0 C1 D1 C2 D2 C3 D3 : Nat} {w : World} (x : DTask) {v_c_o : Value} {v_c_text : Value} {v_a_text : Value} {v_a_list : Value} (n_c_doc : x.c.doc.size ≤ BIG) (h_c_o : OwnB C0 D0 w v_c_o x.c.o) (h_c_text : OwnB C1 D1 w v_c_text x.c.text) (h_a_text : OwnB C2 D2 w v_a_text x.a.text) (h_a_list : OwnB C3 D3 w v_a_list x.a.list) (e0 : D0 ≤ C1) (e1 : D1 ≤ C2) (e2 : D2 ≤ C3) (m1 : C1 ≤ D1) (m2 : C2 ≤ D2) (g0 : B ≤ C0) (g1 : B ≤ C1) (g2 : B ≤ C2) (g3 : B ≤ C3) : Own B w [.int .i64 x.c.kind, .string x.c.doc, .int .i64 x.c.client, .int .i64 x.c.seq, .int .i64 x.c.n, v_c_o, v_c_text, .int .i64 x.pc, .int .i64 x.inv, .int .i64 x.lin, .int .i64 x.res, .int .i64 x.a.code, .int .i64 x.a.rev, v_a_text, v_a_list] x := by
  obtain ⟨f_c_o, s_c_o, k_c_o, d_c_o⟩ := h_c_o
  obtain ⟨f_c_text, s_c_text, k_c_text, d_c_text⟩ := h_c_text
  obtain ⟨f_a_text, s_a_text, k_a_text, d_a_text⟩ := h_a_text
  obtain ⟨f_a_list, s_a_list, k_a_list, d_a_list⟩ := h_a_list
  exact ⟨_, ⟨_, _, _, _, rfl, ⟨v_c_o, v_c_text, f_c_o, f_c_text, rfl, n_c_doc, s_c_o, s_c_text, rfl⟩, ⟨v_a_text, v_a_list, f_a_text, f_a_list, rfl, s_a_text, s_a_list, rfl⟩, rfl⟩, (((k_c_o.mono g0).join (k_c_text.mono g1) (fun p hp q hq e => by subst e; (try simp only [List.mem_append] at hp); (try simp only [List.mem_append] at hq); (first | (have := d_c_o _ hp; have := k_c_text.ge _ hq; omega)))).join ((k_a_text.mono g2).join (k_a_list.mono g3) (fun p hp q hq e => by subst e; (try simp only [List.mem_append] at hp); (try simp only [List.mem_append] at hq); (first | (have := d_a_text _ hp; have := k_a_list.ge _ hq; omega)))) (fun p hp q hq e => by subst e; (try simp only [List.mem_append] at hp); (try simp only [List.mem_append] at hq); rcases hp with hp | hp <;> rcases hq with hq | hq <;> (first | (have := d_c_o _ hp; have := k_a_text.ge _ hq; omega) | (have := d_c_o _ hp; have := k_a_list.ge _ hq; omega) | (have := d_c_text _ hp; have := k_a_text.ge _ hq; omega) | (have := d_c_text _ hp; have := k_a_list.ge _ hq; omega))))⟩
theorem inv_own_DTask {C : Nat} {w : World} {cs : List Value} {x : DTask} (h : Own C w cs x) : ∃ v_c_o v_c_text v_a_text v_a_list, cs = [.int .i64 x.c.kind, .string x.c.doc, .int .i64 x.c.client, .int .i64 x.c.seq, .int .i64 x.c.n, v_c_o, v_c_text, .int .i64 x.pc, .int .i64 x.inv, .int .i64 x.lin, .int .i64 x.res, .int .i64 x.a.code, .int .i64 x.a.rev, v_a_text, v_a_list] ∧ x.c.doc.size ≤ BIG ∧ OwnS C w v_c_o x.c.o ∧ OwnS C w v_c_text x.c.text ∧ OwnS C w v_a_text x.a.text ∧ OwnS C w v_a_list x.a.list := by
  obtain ⟨fp, h, k⟩ := h
  obtain ⟨c_c, c_a, f_c, f_a, rfl, h_c, h_a, rfl⟩ := h
  obtain ⟨v_c_o, v_c_text, f_c_o, f_c_text, rfl, n_c_doc, h_c_o, h_c_text, rfl⟩ := h_c
  obtain ⟨v_a_text, v_a_list, f_a_text, f_a_list, rfl, h_a_text, h_a_list, rfl⟩ := h_a
  exact ⟨v_c_o, v_c_text, v_a_text, v_a_list, rfl, n_c_doc, ⟨_, h_c_o, k.left.left⟩, ⟨_, h_c_text, k.left.right⟩, ⟨_, h_a_text, k.right.left⟩, ⟨_, h_a_list, k.right.right⟩⟩

theorem inv_DQueue {w : World} {cs : List Value} {x : DQueue} (h : Rd w cs x) : ∃ v_list, cs = [.string x.doc, v_list] ∧ x.doc.size ≤ BIG ∧ RdS w v_list x.list := by
  obtain ⟨fp, h⟩ := h
  obtain ⟨v_list, f_list, rfl, n_doc, h_list, rfl⟩ := h
  exact ⟨v_list, rfl, n_doc, ⟨_, h_list⟩⟩
theorem mk_DQueue {w : World} (x : DQueue) {v_list : Value} (n_doc : x.doc.size ≤ BIG) (h_list : RdS w v_list x.list) : Rd w [.string x.doc, v_list] x := by
  obtain ⟨f_list, h_list⟩ := h_list
  exact ⟨_, ⟨v_list, f_list, rfl, n_doc, h_list, rfl⟩⟩
theorem own_DQueue {B C0 D0 : Nat} {w : World} (x : DQueue) {v_list : Value} (n_doc : x.doc.size ≤ BIG) (h_list : OwnB C0 D0 w v_list x.list)   (g0 : B ≤ C0) : Own B w [.string x.doc, v_list] x := by
  obtain ⟨f_list, s_list, k_list, d_list⟩ := h_list
  exact ⟨_, ⟨v_list, f_list, rfl, n_doc, s_list, rfl⟩, (k_list.mono g0)⟩
theorem inv_own_DQueue {C : Nat} {w : World} {cs : List Value} {x : DQueue} (h : Own C w cs x) : ∃ v_list, cs = [.string x.doc, v_list] ∧ x.doc.size ≤ BIG ∧ OwnS C w v_list x.list := by
  obtain ⟨fp, h, k⟩ := h
  obtain ⟨v_list, f_list, rfl, n_doc, h_list, rfl⟩ := h
  exact ⟨v_list, rfl, n_doc, ⟨_, h_list, k⟩⟩

theorem inv_DWorld {w : World} {cs : List Value} {x : DWorld} (h : Rd w cs x) : ∃ v_h_docs v_h_subs v_locks v_queues v_tasks, cs = [.bool x.h.shut, v_h_docs, v_h_subs, .int .i64 x.h.last, v_locks, v_queues, v_tasks, .int .i64 x.step] ∧ RdS w v_h_docs x.h.docs ∧ RdS w v_h_subs x.h.subs ∧ RdS w v_locks x.locks ∧ RdS w v_queues x.queues ∧ RdS w v_tasks x.tasks := by
  obtain ⟨fp, h⟩ := h
  obtain ⟨c_h, v_locks, v_queues, v_tasks, f_h, f_locks, f_queues, f_tasks, rfl, h_h, h_locks, h_queues, h_tasks, rfl⟩ := h
  obtain ⟨v_h_docs, v_h_subs, f_h_docs, f_h_subs, rfl, h_h_docs, h_h_subs, rfl⟩ := h_h
  exact ⟨v_h_docs, v_h_subs, v_locks, v_queues, v_tasks, rfl, ⟨_, h_h_docs⟩, ⟨_, h_h_subs⟩, ⟨_, h_locks⟩, ⟨_, h_queues⟩, ⟨_, h_tasks⟩⟩
theorem mk_DWorld {w : World} (x : DWorld) {v_h_docs : Value} {v_h_subs : Value} {v_locks : Value} {v_queues : Value} {v_tasks : Value}  (h_h_docs : RdS w v_h_docs x.h.docs) (h_h_subs : RdS w v_h_subs x.h.subs) (h_locks : RdS w v_locks x.locks) (h_queues : RdS w v_queues x.queues) (h_tasks : RdS w v_tasks x.tasks) : Rd w [.bool x.h.shut, v_h_docs, v_h_subs, .int .i64 x.h.last, v_locks, v_queues, v_tasks, .int .i64 x.step] x := by
  obtain ⟨f_h_docs, h_h_docs⟩ := h_h_docs
  obtain ⟨f_h_subs, h_h_subs⟩ := h_h_subs
  obtain ⟨f_locks, h_locks⟩ := h_locks
  obtain ⟨f_queues, h_queues⟩ := h_queues
  obtain ⟨f_tasks, h_tasks⟩ := h_tasks
  exact ⟨_, ⟨_, v_locks, v_queues, v_tasks, _, f_locks, f_queues, f_tasks, rfl, ⟨v_h_docs, v_h_subs, f_h_docs, f_h_subs, rfl, h_h_docs, h_h_subs, rfl⟩, h_locks, h_queues, h_tasks, rfl⟩⟩
theorem own_DWorld {B C0 D0 C1 D1 C2 D2 C3 D3 C4 D4 : Nat} {w : World} (x : DWorld) {v_h_docs : Value} {v_h_subs : Value} {v_locks : Value} {v_queues : Value} {v_tasks : Value}  (h_h_docs : OwnB C0 D0 w v_h_docs x.h.docs) (h_h_subs : OwnB C1 D1 w v_h_subs x.h.subs) (h_locks : OwnB C2 D2 w v_locks x.locks) (h_queues : OwnB C3 D3 w v_queues x.queues) (h_tasks : OwnB C4 D4 w v_tasks x.tasks) (e0 : D0 ≤ C1) (e1 : D1 ≤ C2) (e2 : D2 ≤ C3) (e3 : D3 ≤ C4) (m1 : C1 ≤ D1) (m2 : C2 ≤ D2) (m3 : C3 ≤ D3) (g0 : B ≤ C0) (g1 : B ≤ C1) (g2 : B ≤ C2) (g3 : B ≤ C3) (g4 : B ≤ C4) : Own B w [.bool x.h.shut, v_h_docs, v_h_subs, .int .i64 x.h.last, v_locks, v_queues, v_tasks, .int .i64 x.step] x := by
  obtain ⟨f_h_docs, s_h_docs, k_h_docs, d_h_docs⟩ := h_h_docs
  obtain ⟨f_h_subs, s_h_subs, k_h_subs, d_h_subs⟩ := h_h_subs
  obtain ⟨f_locks, s_locks, k_locks, d_locks⟩ := h_locks
  obtain ⟨f_queues, s_queues, k_queues, d_queues⟩ := h_queues
  obtain ⟨f_tasks, s_tasks, k_tasks, d_tasks⟩ := h_tasks
  exact ⟨_, ⟨_, v_locks, v_queues, v_tasks, _, f_locks, f_queues, f_tasks, rfl, ⟨v_h_docs, v_h_subs, f_h_docs, f_h_subs, rfl, s_h_docs, s_h_subs, rfl⟩, s_locks, s_queues, s_tasks, rfl⟩, (((k_h_docs.mono g0).join (k_h_subs.mono g1) (fun p hp q hq e => by subst e; (try simp only [List.mem_append] at hp); (try simp only [List.mem_append] at hq); (first | (have := d_h_docs _ hp; have := k_h_subs.ge _ hq; omega)))).join ((k_locks.mono g2).join ((k_queues.mono g3).join (k_tasks.mono g4) (fun p hp q hq e => by subst e; (try simp only [List.mem_append] at hp); (try simp only [List.mem_append] at hq); (first | (have := d_queues _ hp; have := k_tasks.ge _ hq; omega)))) (fun p hp q hq e => by subst e; (try simp only [List.mem_append] at hp); (try simp only [List.mem_append] at hq); rcases hq with hq | hq <;> (first | (have := d_locks _ hp; have := k_queues.ge _ hq; omega) | (have := d_locks _ hp; have := k_tasks.ge _ hq; omega)))) (fun p hp q hq e => by subst e; (try simp only [List.mem_append] at hp); (try simp only [List.mem_append] at hq); rcases hp with hp | hp <;> rcases hq with hq | (hq | hq) <;> (first | (have := d_h_docs _ hp; have := k_locks.ge _ hq; omega) | (have := d_h_docs _ hp; have := k_queues.ge _ hq; omega) | (have := d_h_docs _ hp; have := k_tasks.ge _ hq; omega) | (have := d_h_subs _ hp; have := k_locks.ge _ hq; omega) | (have := d_h_subs _ hp; have := k_queues.ge _ hq; omega) | (have := d_h_subs _ hp; have := k_tasks.ge _ hq; omega))))⟩
theorem inv_own_DWorld {C : Nat} {w : World} {cs : List Value} {x : DWorld} (h : Own C w cs x) : ∃ v_h_docs v_h_subs v_locks v_queues v_tasks, cs = [.bool x.h.shut, v_h_docs, v_h_subs, .int .i64 x.h.last, v_locks, v_queues, v_tasks, .int .i64 x.step] ∧ OwnS C w v_h_docs x.h.docs ∧ OwnS C w v_h_subs x.h.subs ∧ OwnS C w v_locks x.locks ∧ OwnS C w v_queues x.queues ∧ OwnS C w v_tasks x.tasks := by
  obtain ⟨fp, h, k⟩ := h
  obtain ⟨c_h, v_locks, v_queues, v_tasks, f_h, f_locks, f_queues, f_tasks, rfl, h_h, h_locks, h_queues, h_tasks, rfl⟩ := h
  obtain ⟨v_h_docs, v_h_subs, f_h_docs, f_h_subs, rfl, h_h_docs, h_h_subs, rfl⟩ := h_h
  exact ⟨v_h_docs, v_h_subs, v_locks, v_queues, v_tasks, rfl, ⟨_, h_h_docs, k.left.left⟩, ⟨_, h_h_subs, k.left.right⟩, ⟨_, h_locks, k.right.left⟩, ⟨_, h_queues, k.right.right.left⟩, ⟨_, h_tasks, k.right.right.right⟩⟩

end Go.Proofs.Ytihbmefidbmmdaa
