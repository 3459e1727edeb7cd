/- The program's data as Lean structures, and what their cells read as. -/
import Derived.Test.YtihbmefidbmmdaaRep
namespace Go.Proofs.Ytihbmefidbmmdaa
open Go.RowKit

instance : GoT Int where
  n := 1
  rd := fun _ _ cs x fp => cs = [.int .i64 x] ∧ fp = []
  pos := Nat.one_pos
  len := by rintro M w cs x fp ⟨rfl, rfl⟩; rfl
  one := by rintro M w cs x fp ⟨rfl, rfl⟩ u hu; simp at hu; subst hu; rfl
  live := by rintro M w cs x fp ⟨rfl, rfl⟩; exact Live.nil w
  keep := by rintro M w w' cs x fp h _; exact h
instance {α : Type} [GoT α] : GoT (List α) where
  n := 1
  rd := fun M w cs x fp => ∃ v, cs = [v] ∧ Sl M w v x fp
  pos := Nat.one_pos
  len := by rintro M w cs x fp ⟨v, rfl, h⟩; rfl
  one := by rintro M w cs x fp ⟨v, rfl, h⟩ u hu; simp at hu; subst hu; exact h.one
  live := by rintro M w cs x fp ⟨v, rfl, h⟩; exact h.live
  keep := by rintro M w w' cs x fp ⟨v, rfl, h⟩ hs; exact ⟨v, rfl, h.keep hs⟩

structure DPart where
  kind : Int
  n : Int
  signs : List Int
  deriving DecidableEq

instance : GoT DPart where
  n := 3
  rd := fun M w cs x fp => ∃ v_signs f_signs, cs = [.int .i64 x.kind, .int .i64 x.n, v_signs] ∧ Sl M w v_signs x.signs f_signs ∧ fp = f_signs
  pos := by decide
  len := by rintro M w cs x fp ⟨v_signs, f_signs, rfl, h_signs, rfl⟩; rfl
  one := by
    rintro M w cs x fp ⟨v_signs, f_signs, rfl, h_signs, rfl⟩ u hu
    simp only [List.mem_cons, List.not_mem_nil, or_false] at hu
    rcases hu with rfl | rfl | rfl
    · exact rfl
    · exact rfl
    · exact h_signs.one
  live := by rintro M w cs x fp ⟨v_signs, f_signs, rfl, h_signs, rfl⟩; exact h_signs.live
  keep := by
    rintro M w w' cs x fp ⟨v_signs, f_signs, rfl, h_signs, rfl⟩ hs
    have s_signs := hs
    exact ⟨v_signs, fp, rfl, h_signs.keep s_signs, rfl⟩

structure DEntry where
  client : Int
  seq : Int
  o : List DPart
  deriving DecidableEq

instance : GoT DEntry where
  n := 3
  rd := fun M w cs x fp => ∃ v_o f_o, cs = [.int .i64 x.client, .int .i64 x.seq, v_o] ∧ Sl M w v_o x.o f_o ∧ fp = f_o
  pos := by decide
  len := by rintro M w cs x fp ⟨v_o, f_o, rfl, h_o, rfl⟩; rfl
  one := by
    rintro M w cs x fp ⟨v_o, f_o, rfl, h_o, rfl⟩ u hu
    simp only [List.mem_cons, List.not_mem_nil, or_false] at hu
    rcases hu with rfl | rfl | rfl
    · exact rfl
    · exact rfl
    · exact h_o.one
  live := by rintro M w cs x fp ⟨v_o, f_o, rfl, h_o, rfl⟩; exact h_o.live
  keep := by
    rintro M w w' cs x fp ⟨v_o, f_o, rfl, h_o, rfl⟩ hs
    have s_o := hs
    exact ⟨v_o, fp, rfl, h_o.keep s_o, rfl⟩

structure DSeen where
  client : Int
  seq : Int
  rev : Int
  deriving DecidableEq

instance : GoT DSeen where
  n := 3
  rd := fun _ _ cs x fp => cs = [.int .i64 x.client, .int .i64 x.seq, .int .i64 x.rev] ∧ fp = []
  pos := by decide
  len := by rintro M w cs x fp ⟨rfl, rfl⟩; rfl
  one := by
    rintro M w cs x fp ⟨rfl, rfl⟩ u hu
    simp only [List.mem_cons, List.not_mem_nil, or_false] at hu
    rcases hu with rfl | rfl | rfl
    · exact rfl
    · exact rfl
    · exact rfl
  live := by rintro M w cs x fp ⟨rfl, rfl⟩; exact Live.nil w
  keep := by rintro M w w' cs x fp h _; exact h

structure DDoc where
  name : ByteArray
  from_ : Int
  text : List Int
  list : List DEntry
  seen : List DSeen
  deriving DecidableEq

instance : GoT DDoc where
  n := 5
  rd := fun M w cs x fp => ∃ v_text v_list v_seen f_text f_list f_seen, cs = [.string x.name, .int .i64 x.from_, v_text, v_list, v_seen] ∧ x.name.size ≤ M ∧ Sl M w v_text x.text f_text ∧ Sl M w v_list x.list f_list ∧ Sl M w v_seen x.seen f_seen ∧ fp = f_text ++ (f_list ++ (f_seen))
  pos := by decide
  len := by rintro M w cs x fp ⟨v_text, v_list, v_seen, f_text, f_list, f_seen, rfl, n_name, h_text, h_list, h_seen, rfl⟩; rfl
  one := by
    rintro M w cs x fp ⟨v_text, v_list, v_seen, f_text, f_list, f_seen, rfl, n_name, h_text, h_list, h_seen, rfl⟩ u hu
    simp only [List.mem_cons, List.not_mem_nil, or_false] at hu
    rcases hu with rfl | rfl | rfl | rfl | rfl
    · exact rfl
    · exact rfl
    · exact h_text.one
    · exact h_list.one
    · exact h_seen.one
  live := by rintro M w cs x fp ⟨v_text, v_list, v_seen, f_text, f_list, f_seen, rfl, n_name, h_text, h_list, h_seen, rfl⟩; exact Live.append.2 ⟨h_text.live, Live.append.2 ⟨h_list.live, h_seen.live⟩⟩
  keep := by
    rintro M w w' cs x fp ⟨v_text, v_list, v_seen, f_text, f_list, f_seen, rfl, n_name, h_text, h_list, h_seen, rfl⟩ hs
    simp only [Same.append] at hs
    obtain ⟨s_text, ⟨s_list, s_seen⟩⟩ := hs
    exact ⟨v_text, v_list, v_seen, f_text, f_list, f_seen, rfl, n_name, h_text.keep s_text, h_list.keep s_list, h_seen.keep s_seen, rfl⟩

structure DRing where
  cap : Int
  next : Int
  out : Bool
  list : List DEntry
  deriving DecidableEq

instance : GoT DRing where
  n := 4
  rd := fun M w cs x fp => ∃ v_list f_list, cs = [.int .i64 x.cap, .int .i64 x.next, .bool x.out, v_list] ∧ Sl M w v_list x.list f_list ∧ fp = f_list
  pos := by decide
  len := by rintro M w cs x fp ⟨v_list, f_list, rfl, h_list, rfl⟩; rfl
  one := by
    rintro M w cs x fp ⟨v_list, f_list, rfl, h_list, rfl⟩ u hu
    simp only [List.mem_cons, List.not_mem_nil, or_false] at hu
    rcases hu with rfl | rfl | rfl | rfl
    · exact rfl
    · exact rfl
    · exact rfl
    · exact h_list.one
  live := by rintro M w cs x fp ⟨v_list, f_list, rfl, h_list, rfl⟩; exact h_list.live
  keep := by
    rintro M w w' cs x fp ⟨v_list, f_list, rfl, h_list, rfl⟩ hs
    have s_list := hs
    exact ⟨v_list, fp, rfl, h_list.keep s_list, rfl⟩

structure DSub where
  id : Int
  doc : ByteArray
  r : DRing
  deriving DecidableEq

instance : GoT DSub where
  n := 6
  rd := fun M w cs x fp => ∃ c_r f_r, cs = [.int .i64 x.id, .string x.doc] ++ (c_r) ∧ x.doc.size ≤ M ∧ GoT.rd M w c_r x.r f_r ∧ fp = f_r
  pos := by decide
  len := by rintro M w cs x fp ⟨c_r, f_r, rfl, n_doc, h_r, rfl⟩; simp only [List.length_append, List.length_cons, List.length_nil, GoT.len h_r]; rfl
  one := by
    rintro M w cs x fp ⟨c_r, f_r, rfl, n_doc, h_r, rfl⟩ u hu
    simp only [List.mem_append, List.mem_cons, List.not_mem_nil, or_false] at hu
    rcases hu with (rfl | rfl) | hu
    · exact rfl
    · exact rfl
    · exact GoT.one h_r _ hu
  live := by rintro M w cs x fp ⟨c_r, f_r, rfl, n_doc, h_r, rfl⟩; exact GoT.live h_r
  keep := by
    rintro M w w' cs x fp ⟨c_r, f_r, rfl, n_doc, h_r, rfl⟩ hs
    have s_r := hs
    exact ⟨c_r, fp, rfl, n_doc, GoT.keep h_r s_r, rfl⟩

structure DHub where
  shut : Bool
  docs : List DDoc
  subs : List DSub
  last : Int
  deriving DecidableEq

instance : GoT DHub where
  n := 4
  rd := fun M w cs x fp => ∃ v_docs v_subs f_docs f_subs, cs = [.bool x.shut, v_docs, v_subs, .int .i64 x.last] ∧ Sl M w v_docs x.docs f_docs ∧ Sl M w v_subs x.subs f_subs ∧ fp = f_docs ++ (f_subs)
  pos := by decide
  len := by rintro M w cs x fp ⟨v_docs, v_subs, f_docs, f_subs, rfl, h_docs, h_subs, rfl⟩; rfl
  one := by
    rintro M w cs x fp ⟨v_docs, v_subs, f_docs, f_subs, rfl, h_docs, h_subs, rfl⟩ u hu
    simp only [List.mem_cons, List.not_mem_nil, or_false] at hu
    rcases hu with rfl | rfl | rfl | rfl
    · exact rfl
    · exact h_docs.one
    · exact h_subs.one
    · exact rfl
  live := by rintro M w cs x fp ⟨v_docs, v_subs, f_docs, f_subs, rfl, h_docs, h_subs, rfl⟩; exact Live.append.2 ⟨h_docs.live, h_subs.live⟩
  keep := by
    rintro M w w' cs x fp ⟨v_docs, v_subs, f_docs, f_subs, rfl, h_docs, h_subs, rfl⟩ hs
    simp only [Same.append] at hs
    obtain ⟨s_docs, s_subs⟩ := hs
    exact ⟨v_docs, v_subs, f_docs, f_subs, rfl, h_docs.keep s_docs, h_subs.keep s_subs, rfl⟩

structure DCall where
  kind : Int
  doc : ByteArray
  client : Int
  seq : Int
  n : Int
  o : List DPart
  text : List Int
  deriving DecidableEq

instance : GoT DCall where
  n := 7
  rd := fun M w cs x fp => ∃ v_o v_text f_o f_text, cs = [.int .i64 x.kind, .string x.doc, .int .i64 x.client, .int .i64 x.seq, .int .i64 x.n, v_o, v_text] ∧ x.doc.size ≤ M ∧ Sl M w v_o x.o f_o ∧ Sl M w v_text x.text f_text ∧ fp = f_o ++ (f_text)
  pos := by decide
  len := by rintro M w cs x fp ⟨v_o, v_text, f_o, f_text, rfl, n_doc, h_o, h_text, rfl⟩; rfl
  one := by
    rintro M w cs x fp ⟨v_o, v_text, f_o, f_text, rfl, n_doc, h_o, h_text, rfl⟩ u hu
    simp only [List.mem_cons, List.not_mem_nil, or_false] at hu
    rcases hu with rfl | rfl | rfl | rfl | rfl | rfl | rfl
    · exact rfl
    · exact rfl
    · exact rfl
    · exact rfl
    · exact rfl
    · exact h_o.one
    · exact h_text.one
  live := by rintro M w cs x fp ⟨v_o, v_text, f_o, f_text, rfl, n_doc, h_o, h_text, rfl⟩; exact Live.append.2 ⟨h_o.live, h_text.live⟩
  keep := by
    rintro M w w' cs x fp ⟨v_o, v_text, f_o, f_text, rfl, n_doc, h_o, h_text, rfl⟩ hs
    simp only [Same.append] at hs
    obtain ⟨s_o, s_text⟩ := hs
    exact ⟨v_o, v_text, f_o, f_text, rfl, n_doc, h_o.keep s_o, h_text.keep s_text, rfl⟩

structure DAnswer where
  code : Int
  rev : Int
  text : List Int
  list : List DEntry
  deriving DecidableEq

instance : GoT DAnswer where
  n := 4
  rd := fun M w cs x fp => ∃ v_text v_list f_text f_list, cs = [.int .i64 x.code, .int .i64 x.rev, v_text, v_list] ∧ Sl M w v_text x.text f_text ∧ Sl M w v_list x.list f_list ∧ fp = f_text ++ (f_list)
  pos := by decide
  len := by rintro M w cs x fp ⟨v_text, v_list, f_text, f_list, rfl, h_text, h_list, rfl⟩; rfl
  one := by
    rintro M w cs x fp ⟨v_text, v_list, f_text, f_list, rfl, h_text, h_list, rfl⟩ u hu
    simp only [List.mem_cons, List.not_mem_nil, or_false] at hu
    rcases hu with rfl | rfl | rfl | rfl
    · exact rfl
    · exact rfl
    · exact h_text.one
    · exact h_list.one
  live := by rintro M w cs x fp ⟨v_text, v_list, f_text, f_list, rfl, h_text, h_list, rfl⟩; exact Live.append.2 ⟨h_text.live, h_list.live⟩
  keep := by
    rintro M w w' cs x fp ⟨v_text, v_list, f_text, f_list, rfl, h_text, h_list, rfl⟩ hs
    simp only [Same.append] at hs
    obtain ⟨s_text, s_list⟩ := hs
    exact ⟨v_text, v_list, f_text, f_list, rfl, h_text.keep s_text, h_list.keep s_list, rfl⟩

structure DTask where
  c : DCall
  pc : Int
  inv : Int
  lin : Int
  res : Int
  a : DAnswer
  deriving DecidableEq

instance : GoT DTask where
  n := 15
  rd := fun M w cs x fp => ∃ c_c c_a f_c f_a, cs = c_c ++ ([.int .i64 x.pc, .int .i64 x.inv, .int .i64 x.lin, .int .i64 x.res] ++ (c_a)) ∧ GoT.rd M w c_c x.c f_c ∧ GoT.rd M w c_a x.a f_a ∧ fp = f_c ++ (f_a)
  pos := by decide
  len := by rintro M w cs x fp ⟨c_c, c_a, f_c, f_a, rfl, h_c, h_a, rfl⟩; simp only [List.length_append, List.length_cons, List.length_nil, GoT.len h_c, GoT.len h_a]; rfl
  one := by
    rintro M w cs x fp ⟨c_c, c_a, f_c, f_a, rfl, h_c, h_a, rfl⟩ u hu
    simp only [List.mem_append, List.mem_cons, List.not_mem_nil, or_false] at hu
    rcases hu with hu | ((rfl | rfl | rfl | rfl) | hu)
    · exact GoT.one h_c _ hu
    · exact rfl
    · exact rfl
    · exact rfl
    · exact rfl
    · exact GoT.one h_a _ hu
  live := by rintro M w cs x fp ⟨c_c, c_a, f_c, f_a, rfl, h_c, h_a, rfl⟩; exact Live.append.2 ⟨GoT.live h_c, GoT.live h_a⟩
  keep := by
    rintro M w w' cs x fp ⟨c_c, c_a, f_c, f_a, rfl, h_c, h_a, rfl⟩ hs
    simp only [Same.append] at hs
    obtain ⟨s_c, s_a⟩ := hs
    exact ⟨c_c, c_a, f_c, f_a, rfl, GoT.keep h_c s_c, GoT.keep h_a s_a, rfl⟩

structure DQueue where
  doc : ByteArray
  list : List Int
  deriving DecidableEq

instance : GoT DQueue where
  n := 2
  rd := fun M w cs x fp => ∃ v_list f_list, cs = [.string x.doc, v_list] ∧ x.doc.size ≤ M ∧ Sl M w v_list x.list f_list ∧ fp = f_list
  pos := by decide
  len := by rintro M w cs x fp ⟨v_list, f_list, rfl, n_doc, h_list, rfl⟩; rfl
  one := by
    rintro M w cs x fp ⟨v_list, f_list, rfl, n_doc, h_list, rfl⟩ u hu
    simp only [List.mem_cons, List.not_mem_nil, or_false] at hu
    rcases hu with rfl | rfl
    · exact rfl
    · exact h_list.one
  live := by rintro M w cs x fp ⟨v_list, f_list, rfl, n_doc, h_list, rfl⟩; exact h_list.live
  keep := by
    rintro M w w' cs x fp ⟨v_list, f_list, rfl, n_doc, h_list, rfl⟩ hs
    have s_list := hs
    exact ⟨v_list, fp, rfl, n_doc, h_list.keep s_list, rfl⟩

structure DWorld where
  h : DHub
  locks : List Int
  queues : List DQueue
  tasks : List DTask
  step : Int
  deriving DecidableEq

instance : GoT DWorld where
  n := 8
  rd := fun M w cs x fp => ∃ c_h v_locks v_queues v_tasks f_h f_locks f_queues f_tasks, cs = c_h ++ ([v_locks, v_queues, v_tasks, .int .i64 x.step]) ∧ GoT.rd M w c_h x.h f_h ∧ Sl M w v_locks x.locks f_locks ∧ Sl M w v_queues x.queues f_queues ∧ Sl M w v_tasks x.tasks f_tasks ∧ fp = f_h ++ (f_locks ++ (f_queues ++ (f_tasks)))
  pos := by decide
  len := by rintro M w cs x fp ⟨c_h, v_locks, v_queues, v_tasks, f_h, f_locks, f_queues, f_tasks, rfl, h_h, h_locks, h_queues, h_tasks, rfl⟩; simp only [List.length_append, List.length_cons, List.length_nil, GoT.len h_h]; rfl
  one := by
    rintro M w cs x fp ⟨c_h, v_locks, v_queues, v_tasks, f_h, f_locks, f_queues, f_tasks, rfl, h_h, h_locks, h_queues, h_tasks, rfl⟩ u hu
    simp only [List.mem_append, List.mem_cons, List.not_mem_nil, or_false] at hu
    rcases hu with hu | (rfl | rfl | rfl | rfl)
    · exact GoT.one h_h _ hu
    · exact h_locks.one
    · exact h_queues.one
    · exact h_tasks.one
    · exact rfl
  live := by rintro M w cs x fp ⟨c_h, v_locks, v_queues, v_tasks, f_h, f_locks, f_queues, f_tasks, rfl, h_h, h_locks, h_queues, h_tasks, rfl⟩; exact Live.append.2 ⟨GoT.live h_h, Live.append.2 ⟨h_locks.live, Live.append.2 ⟨h_queues.live, h_tasks.live⟩⟩⟩
  keep := by
    rintro M w w' cs x fp ⟨c_h, v_locks, v_queues, v_tasks, f_h, f_locks, f_queues, f_tasks, rfl, h_h, h_locks, h_queues, h_tasks, rfl⟩ hs
    simp only [Same.append] at hs
    obtain ⟨s_h, ⟨s_locks, ⟨s_queues, s_tasks⟩⟩⟩ := hs
    exact ⟨c_h, v_locks, v_queues, v_tasks, f_h, f_locks, f_queues, f_tasks, rfl, GoT.keep h_h s_h, h_locks.keep s_locks, h_queues.keep s_queues, h_tasks.keep s_tasks, rfl⟩

end Go.Proofs.Ytihbmefidbmmdaa
