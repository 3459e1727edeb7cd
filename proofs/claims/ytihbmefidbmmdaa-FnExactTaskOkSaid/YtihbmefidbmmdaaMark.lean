/- Writes into memory of one's own: an element written and put back; worlds that differ at named places alone; marks that are counted through a datum. -/
import Derived.Test.YtihbmefidbmmdaaBasic
namespace Go.Proofs.Ytihbmefidbmmdaa
open Go.RowKit

/-- a slice taken apart at its k-th element, and put together again when that element has been written -/
theorem Sl.lens {α : Type} [GoT α] {M : Nat} {w : World} {v : Value} {l : List α} {fp : List Pos} (h : Sl M w v l fp) (nd : fp.Nodup) {P : Program} {T E : TypeId} (hT : P.underlying T = some (.slice E))
    (hl : ∀ w1, (sizeOf E).run P w1 = .ok (GoT.n α) w1) (k : Nat) {x : α} (hk : l[k]? = some x) :
    ∃ b o cs f, (∀ w1, (Instr.indexAt T v (.int .i64 k)).run P w1 = .ok (.pointer (some ⟨b, o, none⟩)) w1) ∧ At w b o cs ∧ GoT.rd M w cs x f ∧ (∀ j < GoT.n α, (b, o + j) ∈ fp ∧ (b, o + j) ∉ f) ∧
      (∀ p ∈ f, p ∈ fp) ∧ f.Nodup ∧
      (∀ w' cs' x', At w' b o cs' → GoT.rd M w' cs' x' f → (∀ p ∈ fp, p ∉ f → (∀ j < GoT.n α, p ≠ (b, o + j)) → w'.cell? ⟨p.1, p.2, none⟩ = w.cell? ⟨p.1, p.2, none⟩) → Sl M w' v (l.set k x') fp) := by
  have hlt : k < l.length := (List.getElem?_eq_some_iff.1 hk).1
  rcases h with ⟨ao, rfl, rfl, _⟩ | ⟨b, o, cap, cs, fs, rfl, h1, h2, h3, ha, he, hlv, rfl⟩
  · simp at hlt
  · obtain ⟨c1, c2, c3, f1, f2, f3, rfl, rfl, hc1, e1, hx, e3⟩ := he.at_ k hk
    obtain ⟨ndo, ndf, dis⟩ := List.nodup_append.1 nd
    obtain ⟨nd12, nd3, dis3⟩ := List.nodup_append.1 ndf
    obtain ⟨nd1, nd2, dis12⟩ := List.nodup_append.1 nd12
    have hc2 := GoT.len hx
    have hc3 := e3.length
    rw [List.length_drop] at hc3
    have hkn : k * GoT.n α + GoT.n α ≤ cap * GoT.n α := by
      have := Nat.mul_le_mul_right (GoT.n α) (show k + 1 ≤ cap by omega)
      rwa [Nat.add_mul, Nat.one_mul] at this
    have hall : k * GoT.n α + GoT.n α + c3.length ≤ cap * GoT.n α := by
      have := Nat.mul_le_mul_right (GoT.n α) h1
      rw [hc3]
      have e : l.length = k + 1 + (l.length - (k + 1)) := by omega
      rw [e, Nat.add_mul, Nat.add_mul, Nat.one_mul] at this
      simpa using this
    have hown : ∀ j < GoT.n α, ((b, o + k * GoT.n α + j) : Pos) ∈ own b o (cap * GoT.n α) := fun j hj => mem_own.2 ⟨rfl, by simp; omega, by simp; omega⟩
    refine ⟨b, o + k * GoT.n α, c2, f2, fun w1 => ?_, ?_, hx, fun j hj => ⟨List.mem_append.2 (.inl (hown j hj)), fun hm => dis _ (hown j hj) _ (by simp [hm]) rfl⟩, fun p hp => by simp [hp], nd2, ?_⟩
    · have hi : ¬ l.length ≤ k := by omega
      simp [Instr.indexAt, run_underlying hT, asIntOf, hl, Addr.add_lit, Result.andThen]
      intro hh
      exact absurd hh hi
    · have := (At.append.1 (At.append.1 ha).1).2
      rwa [hc1] at this
    · intro w' cs' x' ha' hx' hsame
      have hcs' := GoT.len hx'
      obtain ⟨ha12, ha3⟩ := At.append.1 ha
      obtain ⟨ha1, ha2⟩ := At.append.1 ha12
      rw [hc1] at ha2
      rw [List.length_append, hc1, hc2] at ha3
      have oth : ∀ q : Nat, q < cap * GoT.n α → (q < k * GoT.n α ∨ k * GoT.n α + GoT.n α ≤ q) → w'.cell? ⟨b, o + q, none⟩ = w.cell? ⟨b, o + q, none⟩ := by
        intro q hq hor
        have hm : ((b, o + q) : Pos) ∈ own b o (cap * GoT.n α) := mem_own.2 ⟨rfl, by simp, by simp; omega⟩
        refine hsame (b, o + q) (List.mem_append.2 (.inl hm)) (fun hf => dis _ hm _ (by simp [hf]) rfl) (fun j hj e => ?_)
        simp only [Prod.mk.injEq, true_and] at e
        omega
      have s13 : Same w w' (f1 ++ f3) := by
        intro p hp
        refine hsame p (by rcases List.mem_append.1 hp with hp | hp <;> simp [hp]) (fun hf => ?_) (fun j hj e => ?_)
        · rcases List.mem_append.1 hp with hp | hp
          · exact dis12 _ hp _ hf rfl
          · exact dis3 _ (List.mem_append.2 (.inr hf)) _ hp rfl
        · subst e
          exact dis _ (hown j hj) _ (by rcases List.mem_append.1 hp with hp | hp <;> simp [hp]) rfl
      obtain ⟨s1, s3⟩ := Same.append.1 s13
      refine .inr ⟨b, o, cap, c1 ++ cs' ++ c3, f1 ++ f2 ++ f3, by rw [List.length_set], by rw [List.length_set]; exact h1, h2, by rw [List.length_set]; exact h3, ?_, ?_, ?_, rfl⟩
      · refine At.append.2 ⟨At.append.2 ⟨ha1.keep fun j hj => oth j (by omega) (.inl (by omega)), by rw [hc1]; exact ha'⟩, ?_⟩
        rw [List.length_append, hc1, hcs']
        refine ha3.keep fun j hj => ?_
        rw [Nat.add_assoc]
        exact oth _ (by omega) (.inr (by omega))
      · have hset : l.set k x' = l.take k ++ ([x'] ++ l.drop (k + 1)) := by rw [List.set_eq_take_append_cons_drop, if_pos hlt]; rfl
        rw [hset, List.append_assoc]
        refine Els.append.2 ⟨c1, cs' ++ c3, f1, f2 ++ f3, rfl, e1.keep s1, Els.append.2 ⟨cs', c3, f2, f3, rfl, Els.single hx', e3.keep s3, rfl⟩, by simp⟩
      · intro p hp
        obtain ⟨q1, q2, q3⟩ := mem_own.1 hp
        obtain ⟨pb, po⟩ := p
        simp only at q1 q2 q3
        subst q1
        obtain ⟨q, rfl⟩ : ∃ q, po = o + q := ⟨po - o, by omega⟩
        by_cases hor : q < k * GoT.n α ∨ k * GoT.n α + GoT.n α ≤ q
        · show (w'.cell? ⟨pb, o + q, none⟩).isSome = true
          rw [oth q (by omega) hor]
          exact hlv _ hp
        · obtain ⟨j, rfl⟩ : ∃ j, q = k * GoT.n α + j := ⟨q - k * GoT.n α, by omega⟩
          have := ha' j _ (List.getElem?_eq_getElem (by omega))
          show (w'.cell? ⟨pb, o + (k * GoT.n α + j), none⟩).isSome = true
          rw [← Nat.add_assoc, this]
          rfl

/-- w' is w but at the places fp, and but for new blocks -/
structure Wr (fp : List Pos) (w w' : World) : Prop where
  os : w'.os = w.os
  tape : w'.tape = w.tape
  output : w'.output = w.output
  size : w.heap.size ≤ w'.heap.size
  cell : ∀ p : Pos, p.1 < w.heap.size → p ∉ fp → w'.cell? ⟨p.1, p.2, none⟩ = w.cell? ⟨p.1, p.2, none⟩
  frozen : ∀ p : Pos, p.1 < w.heap.size → w'.frozen? ⟨p.1, p.2, none⟩ = w.frozen? ⟨p.1, p.2, none⟩
  block : ∀ k, k < w.heap.size → (∀ p ∈ fp, p.1 ≠ k) → w'.heap[k]? = w.heap[k]?
theorem Wr.refl (fp : List Pos) (w : World) : Wr fp w w := ⟨rfl, rfl, rfl, Nat.le_refl _, fun _ _ _ => rfl, fun _ _ => rfl, fun _ _ _ => rfl⟩
theorem Wr.trans {fp : List Pos} {a b c : World} (h : Wr fp a b) (k : Wr fp b c) : Wr fp a c :=
  ⟨k.os.trans h.os, k.tape.trans h.tape, k.output.trans h.output, Nat.le_trans h.size k.size, fun p hp hn => (k.cell p (Nat.lt_of_lt_of_le hp h.size) hn).trans (h.cell p hp hn),
    fun p hp => (k.frozen p (Nat.lt_of_lt_of_le hp h.size)).trans (h.frozen p hp), fun q hq hn => (k.block q (Nat.lt_of_lt_of_le hq h.size) hn).trans (h.block q hq hn)⟩
theorem Wr.sub {f1 f2 : List Pos} {w w' : World} (h : Wr f1 w w') (hs : ∀ p ∈ f1, p ∈ f2) : Wr f2 w w' :=
  ⟨h.os, h.tape, h.output, h.size, fun p hp hn => h.cell p hp (fun hm => hn (hs p hm)), h.frozen, fun k hk hn => h.block k hk fun p hp => hn p (hs p hp)⟩
theorem Wr.of_below {fp : List Pos} {w w' : World} (h : Below w.heap.size w w') : Wr fp w w' :=
  ⟨h.os, h.tape, h.output, h.size, fun p hp _ => h.cell (p := ⟨p.1, p.2, none⟩) hp, fun p hp => h.frozen (p := ⟨p.1, p.2, none⟩) hp, fun k hk _ => h.block k hk⟩
theorem Wr.below {fp : List Pos} {w w' : World} {B : Nat} (h : Wr fp w w') (hB : B ≤ w.heap.size) (hge : ∀ p ∈ fp, B ≤ p.1) : Below B w w' :=
  ⟨h.os, h.tape, h.output, h.size, fun k hk => h.block k (by omega) fun p hp e => by have := hge p hp; omega⟩
theorem Wr.setCell {fp : List Pos} (w : World) {b o : Nat} (hm : (b, o) ∈ fp) (v : Value) : Wr fp w (w.setCell ⟨b, o, none⟩ v) :=
  ⟨rfl, rfl, rfl, by simp, fun p _ hn => World.cell?_setCell_other _ _ _ _ (fun e => hn (by
      have h1 : b = p.1 := congrArg Addr.block e
      have h2 : o = p.2 := congrArg Addr.off e
      subst h1; subst h2; exact hm)), fun p _ => by simp,
    fun k _ hn => Below.heap_setCell w ⟨b, o, none⟩ v k (fun e => hn _ hm e.symm)⟩
theorem Wr.same {fp g : List Pos} {w w' : World} (h : Wr fp w w') (hl : Live w g) (hd : ∀ p ∈ g, p ∉ fp) : Same w w' g := fun p hp => h.cell p (hl.lt p hp) (hd p hp)
theorem Wr.fresh {fp g : List Pos} {w w' : World} {B : Nat} (h : Wr fp w w') (hl : Live w g) (hf : Fresh B w g) : Fresh B w' g :=
  ⟨hf.nodup, hf.ge, fun p hp => by rw [h.frozen p (hl.lt p hp)]; exact hf.free p hp⟩

/-- how many numbers a datum's marks take, and the datum with its marks, from k on -/
class GoM (α : Type) where
  cnt : α → Nat
  mrk : Int → α → α
  cnt_mk : ∀ k x, cnt (mrk k x) = cnt x
  mk_mk : ∀ k x, mrk k (mrk k x) = mrk k x
section
variable {α : Type} [GoM α]
def cntL : List α → Nat
  | [] => 0
  | x :: xs => GoM.cnt x + cntL xs
def mkL : Int → List α → List α
  | _, [] => []
  | k, x :: xs => GoM.mrk k x :: mkL (k + GoM.cnt x) xs
theorem mkL_length : ∀ (l : List α) (k : Int), (mkL k l).length = l.length
  | [], _ => rfl
  | x :: xs, k => by simp [mkL, mkL_length xs]
theorem cntL_mkL : ∀ (l : List α) (k : Int), cntL (mkL k l) = cntL l
  | [], _ => rfl
  | x :: xs, k => by simp [mkL, cntL, GoM.cnt_mk, cntL_mkL xs]
theorem mkL_mkL : ∀ (l : List α) (k : Int), mkL k (mkL k l) = mkL k l
  | [], _ => rfl
  | x :: xs, k => by simp [mkL, GoM.mk_mk, GoM.cnt_mk, mkL_mkL xs]
theorem cntL_append : ∀ (a b : List α), cntL (a ++ b) = cntL a + cntL b
  | [], b => by simp [cntL]
  | x :: xs, b => by simp [cntL, cntL_append xs]; omega
theorem mkL_append : ∀ (a b : List α) (k : Int), mkL k (a ++ b) = mkL k a ++ mkL (k + cntL a) b
  | [], b, k => by simp [cntL, mkL]
  | x :: xs, b, k => by simp [cntL, mkL, mkL_append xs, Int.add_assoc]
theorem cntL_take_succ {l : List α} {k : Nat} {x : α} (h : l[k]? = some x) : cntL (l.take (k + 1)) = cntL (l.take k) + GoM.cnt x := by
  rw [take_snoc h, cntL_append]; simp [cntL]
theorem cntL_take_le (l : List α) (k : Nat) : cntL (l.take k) ≤ cntL l := by
  have := cntL_append (l.take k) (l.drop k)
  rw [List.take_append_drop] at this
  omega
/-- marks so far, the rest as it was -/
def marked (k : Int) (l : List α) (i : Nat) : List α := mkL k (l.take i) ++ l.drop i
theorem marked_zero (k : Int) (l : List α) : marked k l 0 = l := by simp [marked, mkL]
theorem marked_all (k : Int) (l : List α) : marked k l l.length = mkL k l := by simp [marked]
theorem marked_get {k : Int} {l : List α} {i : Nat} {x : α} (h : l[i]? = some x) : (marked k l i)[i]? = some x := by
  have hlt := (List.getElem?_eq_some_iff.1 h).1
  unfold marked
  rw [List.getElem?_append_right (by simp [mkL_length]; omega), mkL_length, List.length_take, Nat.min_eq_left (by omega)]
  simpa using h
theorem marked_set {k : Int} {l : List α} {i : Nat} {x : α} (h : l[i]? = some x) : (marked k l i).set i (GoM.mrk (k + cntL (l.take i)) x) = marked k l (i + 1) := by
  have hlt := (List.getElem?_eq_some_iff.1 h).1
  unfold marked
  rw [List.set_append_right _ _ (by simp [mkL_length]; omega), mkL_length, List.length_take, Nat.min_eq_left (by omega), take_snoc h, mkL_append]
  simp only [Nat.sub_self, List.append_assoc, mkL, List.cons_append, List.nil_append]
  congr 1
  obtain ⟨h1, h2⟩ := List.getElem?_eq_some_iff.1 h
  rw [← List.getElem_cons_drop hlt, h2]
  rfl
/-- what is held: the marks -/
theorem held_get : ∀ {l : List α} {k : Int}, mkL k l = l → ∀ {i : Nat} {x : α}, l[i]? = some x → GoM.mrk (k + cntL (l.take i)) x = x
  | [], _, _, i, x, h => by simp at h
  | y :: ys, k, hm, i, x, h => by
    simp only [mkL, List.cons.injEq] at hm
    cases i with
    | zero =>
      simp only [List.getElem?_cons_zero, Option.some.injEq] at h
      subst h
      simpa [cntL] using hm.1
    | succ i =>
      simp only [List.getElem?_cons_succ] at h
      have := held_get hm.2 h
      simp only [List.take_succ_cons, cntL]
      rwa [Int.add_assoc, ← Int.natCast_add] at this
end
end Go.Proofs.Ytihbmefidbmmdaa
