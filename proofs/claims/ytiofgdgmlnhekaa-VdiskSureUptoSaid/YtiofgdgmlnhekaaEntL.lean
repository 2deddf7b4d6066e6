/-
  From what a law's row gives (arguments that read as data, of small bulk) to what the separation logic wants, and back: a law that returns true and leaves old memory alone keeps its row.
-/
import Derived.Test.YtiofgdgmlnhekaaTy
import Derived.Test.YtiofgdgmlnhekaaWk
import Derived.Test.YtiofgdgmlnhekaaRows
import Derived.ProofKit
import Derived.OpenShut
import Derived.JoinedCond
import Derived.Deep.Slices
namespace Go.Proofs.Ytiofgdgmlnhekaa
open Go Go.RowKit Sl Go.Deep Go.ChangeShapes Go.WideShapes Go.ChangeAt

section
variable {H : Type} {enc : TypeId × Value → H} {P : Program} {W : World}

theorem bulk_one (d : DataW H) : 1 ≤ Rows.uptoBulk d := by
  cases d with
  | lit l => cases l <;> simp [Rows.uptoBulk]
  | _ => simp [Rows.uptoBulk]

theorem bulk_len (l : List (DataW H)) : l.length ≤ Rows.uptoBulkAll l := by
  induction l with
  | nil => simp [Rows.uptoBulkAll]
  | cons x r ih => have := bulk_one x; simp only [Rows.uptoBulkAll, List.length_cons]; omega

theorem bulk_slice (elems spare : List (DataW H)) : elems.length + 1 ≤ Rows.uptoBulk (.slice elems spare) := by
  have h1 := bulk_len elems
  simp only [Rows.uptoBulk]; omega

theorem wf_u8 {x : Int} (h : (Lit.int .u8 x).wf = true) : ∃ c : UInt8, x = (c.toNat : Int) := by
  have : 0 ≤ x ∧ x ≤ 255 := by simpa [Lit.wf, IntKind.min, IntKind.max, IntKind.signed, IntKind.bits] using h
  refine ⟨UInt8.ofNat x.toNat, ?_⟩
  simp; omega

theorem wf_i64 {x : Int} (h : (Lit.int .i64 x).wf = true) : -9223372036854775808 ≤ x ∧ x ≤ 9223372036854775807 := by
  simpa [Lit.wf, IntKind.min, IntKind.max, IntKind.signed, IntKind.bits] using h

theorem spot_none {A : Addr} {v : Value} (h : W.cell? A = some v) : A.spot = none := by
  unfold World.cell? at h
  split at h
  · split at h
    · cases h
    · rename_i hs; cases hq : A.spot <;> simp_all
  · cases h

/-- What every element of a slice is, one cell each, as a list. -/
theorem reads_of {A : Addr} {n m : Nat} {V : Nat → Value} (hnm : n ≤ m) (h : ∀ i, i < m → W.cell? (A.add i) = some (V i)) : Reads W (some A) n 1 ((List.range n).map V) := by
  refine ⟨by simp, fun e => (by cases e), fun a e j u hu => ?_⟩
  cases e
  have hj : j < n := by
    have := (List.getElem?_eq_some_iff.1 hu).1
    simpa using this
  have hs : A.spot = none := by
    have := spot_none (h 0 (by omega))
    simpa [Addr.add] using this
  refine ⟨hs, ?_⟩
  rw [← addr_add A hs]
  rw [List.getElem?_map, List.getElem?_range hj] at hu
  rw [h j (by omega)]
  exact hu

/-- A slice of elements of one cell each, of whatever kind: 'f' turns what an element is known to be into a value of one's own. -/
theorem open_list {α : Type} {T E : TypeId} {fuel : Nat} {cs : List Value} {x : DataW H × List MemPlace} (hT : P.underlying T = some (.slice E)) (hc : P.cellsOf E = 1)
    (h : DataW.trod enc P W 0 (fun _ => true) true fuel T cs = some x) (f : Value → α → Prop) (hf : ∀ v d p n, DataW.trod enc P W 0 (fun _ => true) true n E [v] = some (d, p) → ∃ y, f v y) :
    ∃ A n c vs, ∃ ys : List α, ∃ ds sp : List (DataW H), cs = [.slice A n c] ∧ n = ys.length ∧ Reads W A n 1 vs ∧ vs.length = n ∧ (x.1 = .slice ds sp ∨ x.1 = .nil ∧ ds = []) ∧ ds.length = n ∧
      (∀ (i : Nat) (y : α), ys[i]? = some y → ∃ v d p k, vs[i]? = some v ∧ ds[i]? = some d ∧ f v y ∧ DataW.trod enc P W 0 (fun _ => true) true k E [v] = some (d, p)) := by
  rcases open_slice1 hT hc h with ⟨rfl, rfl⟩ | ⟨A, len, cap, m, n, V, D, Pl, rfl, _, hl, _, hm, rfl, hx⟩
  · exact ⟨none, 0, 0, [], [], [], [], rfl, rfl, ⟨rfl, fun _ => rfl, fun _ e => by cases e⟩, rfl, .inr ⟨rfl, rfl⟩, rfl, fun i y hy => by simp at hy⟩
  · simp only [if_true] at hm
    subst hm
    have key : ∀ k, k ≤ len → ∃ ys : List α, ys.length = k ∧ ∀ i y, ys[i]? = some y → f (V i) y := by
      intro k
      induction k with
      | zero => exact fun _ => ⟨[], rfl, fun i y hy => by simp at hy⟩
      | succ k ih =>
        intro hk
        obtain ⟨ys, h1, h2⟩ := ih (by omega)
        obtain ⟨y, hy⟩ := hf _ _ _ _ (hx k (by omega)).2
        refine ⟨ys ++ [y], by simp [h1], fun i z hz => ?_⟩
        by_cases hi : i < k
        · rw [List.getElem?_append_left (by omega)] at hz; exact h2 i z hz
        · have hlt : i < k + 1 := by
            have := (List.getElem?_eq_some_iff.1 hz).1
            simp [h1] at this; omega
          obtain rfl : i = k := by omega
          rw [List.getElem?_append_right (by omega), h1] at hz
          simp at hz; subst hz; exact hy
    obtain ⟨ys, h1, h2⟩ := key len (Nat.le_refl _)
    refine ⟨some A, len, m, _, ys, (List.range len).map D, _, rfl, h1.symm, reads_of hl (fun i hi => (hx i hi).1), by simp, .inl rfl, by simp, fun i y hy => ?_⟩
    have hi : i < len := by
      have := (List.getElem?_eq_some_iff.1 hy).1
      omega
    exact ⟨V i, D i, Pl i, n, by simp [List.getElem?_range hi], by simp [List.getElem?_range hi], h2 i y hy, (hx i (by omega)).2⟩

theorem bulk_all {d : DataW H} {l : List (DataW H)} (h : d ∈ l) : Rows.uptoBulk d ≤ Rows.uptoBulkAll l := by
  induction l with
  | nil => cases h
  | cons x r ih =>
    simp only [Rows.uptoBulkAll]
    cases List.mem_cons.1 h with
    | inl e => subst e; omega
    | inr e => have := ih e; omega

/-- A []byte. -/
theorem open_bytes {T E : TypeId} {fuel : Nat} {cs : List Value} {x : DataW H × List MemPlace} (hT : P.underlying T = some (.slice E)) (hE : P.underlying E = some (.int .u8)) (hc : P.cellsOf E = 1)
    (h : DataW.trod enc P W 0 (fun _ => true) true fuel T cs = some x) : ∃ A n c, ∃ l : List UInt8, cs = [.slice A n c] ∧ n = l.length ∧ Reads W A n 1 (B8 l) ∧ l.length + 1 ≤ Rows.uptoBulk x.1 := by
  obtain ⟨A, n, c, vs, ys, ds, sp, rfl, hn, hr, hv, hx, hd, hel⟩ := open_list hT hc h (fun v (y : UInt8) => v = b8 y) (fun v d p k hk => by
    obtain ⟨z, hz, _, hw⟩ := DataW.trod_int hE hk
    obtain ⟨q, rfl⟩ := wf_u8 hw
    exact ⟨q, by simpa [b8] using hz⟩)
  have e : vs = B8 ys := by
    apply List.ext_getElem?
    intro i
    by_cases hi : i < n
    · obtain ⟨v, d, p, k, h1, _, h2, _⟩ := hel i (ys[i]'(by omega)) (List.getElem?_eq_getElem (by omega))
      have h3 : i < ys.length := by omega
      rw [h1, h2]; simp [B8, h3]
    · rw [List.getElem?_eq_none (by omega), List.getElem?_eq_none (by simp [B8]; omega)]
  subst e
  refine ⟨A, n, c, ys, rfl, hn, hr, ?_⟩
  rcases hx with hx | ⟨hx, h0⟩
  · rw [hx]; have := bulk_slice ds sp; omega
  · have h9 : ys.length = 0 := by rw [h0] at hd; simp at hd; omega
    rw [hx]; simp [Rows.uptoBulk, h9]

/-- A []bool. -/
theorem open_bools {T E : TypeId} {fuel : Nat} {cs : List Value} {x : DataW H × List MemPlace} (hT : P.underlying T = some (.slice E)) (hE : P.underlying E = some .bool) (hc : P.cellsOf E = 1)
    (h : DataW.trod enc P W 0 (fun _ => true) true fuel T cs = some x) : ∃ A n c, ∃ l : List Bool, cs = [.slice A n c] ∧ n = l.length ∧ Reads W A n 1 (l.map Value.bool) ∧ l.length + 1 ≤ Rows.uptoBulk x.1 := by
  obtain ⟨A, n, c, vs, ys, ds, sp, rfl, hn, hr, hv, hx, hd, hel⟩ := open_list hT hc h (fun v (y : Bool) => v = .bool y) (fun v d p k hk => by
    obtain ⟨z, hz, _⟩ := DataW.trod_bool hE hk
    exact ⟨z, by simpa using hz⟩)
  have e : vs = ys.map Value.bool := by
    apply List.ext_getElem?
    intro i
    by_cases hi : i < n
    · obtain ⟨v, d, p, k, h1, _, h2, _⟩ := hel i (ys[i]'(by omega)) (List.getElem?_eq_getElem (by omega))
      have h3 : i < ys.length := by omega
      rw [h1, h2]; simp [h3]
    · rw [List.getElem?_eq_none (by omega), List.getElem?_eq_none (by simp; omega)]
  subst e
  refine ⟨A, n, c, ys, rfl, hn, hr, ?_⟩
  rcases hx with hx | ⟨hx, h0⟩
  · rw [hx]; have := bulk_slice ds sp; omega
  · have h9 : ys.length = 0 := by rw [h0] at hd; simp at hd; omega
    rw [hx]; simp [Rows.uptoBulk, h9]

/-- A []int. -/
theorem open_ints' {T E : TypeId} {fuel : Nat} {cs : List Value} {x : DataW H × List MemPlace} (hT : P.underlying T = some (.slice E)) (hE : P.underlying E = some (.int .i64)) (hc : P.cellsOf E = 1)
    (h : DataW.trod enc P W 0 (fun _ => true) true fuel T cs = some x) : ∃ A n c, ∃ l : List Int, cs = [.slice A n c] ∧ n = l.length ∧ Reads W A n 1 (l.map (Value.int .i64)) ∧ l.length + 1 ≤ Rows.uptoBulk x.1 ∧ ∀ y ∈ l, -9223372036854775808 ≤ y ∧ y ≤ 9223372036854775807 := by
  obtain ⟨A, n, c, vs, ys, ds, sp, rfl, hn, hr, hv, hx, hd, hel⟩ := open_list hT hc h (fun v (y : Int) => v = .int .i64 y ∧ -9223372036854775808 ≤ y ∧ y ≤ 9223372036854775807) (fun v d p k hk => by
    obtain ⟨z, hz, _, hw⟩ := DataW.trod_int hE hk
    exact ⟨z, by simpa using hz, wf_i64 hw⟩)
  have e : vs = ys.map (Value.int .i64) := by
    apply List.ext_getElem?
    intro i
    by_cases hi : i < n
    · obtain ⟨v, d, p, k, h1, _, h2, _⟩ := hel i (ys[i]'(by omega)) (List.getElem?_eq_getElem (by omega))
      have h3 : i < ys.length := by omega
      rw [h1, h2.1]; simp [h3]
    · rw [List.getElem?_eq_none (by omega), List.getElem?_eq_none (by simp; omega)]
  subst e
  refine ⟨A, n, c, ys, rfl, hn, hr, ?_, fun y hy => ?_⟩
  · rcases hx with hx | ⟨hx, h0⟩
    · rw [hx]; have := bulk_slice ds sp; omega
    · have h9 : ys.length = 0 := by rw [h0] at hd; simp at hd; omega
      rw [hx]; simp [Rows.uptoBulk, h9]
  · obtain ⟨i, hi, rfl⟩ := List.getElem_of_mem hy
    obtain ⟨_, _, _, _, _, _, h2, _⟩ := hel i _ (List.getElem?_eq_getElem hi)
    exact h2.2

theorem bulk_sum {α : Type} (f : α → Nat) : ∀ (ys : List α) (ds : List (DataW H)), ds.length = ys.length → (∀ (i : Nat) (y : α) (d : DataW H), ys[i]? = some y → ds[i]? = some d → f y ≤ Rows.uptoBulk d) → (ys.map f).sum ≤ Rows.uptoBulkAll ds
  | [], [], _, _ => by simp [Rows.uptoBulkAll]
  | y :: ys, d :: ds, h, hf => by
    have h0 := hf 0 y d rfl rfl
    have ih := bulk_sum f ys ds (by simpa using h) (fun i y' d' h1 h2 => hf (i + 1) y' d' (by simpa using h1) (by simpa using h2))
    simp [Rows.uptoBulkAll]; omega
  | [], _ :: _, h, _ => by simp at h
  | _ :: _, [], h, _ => by simp at h

/-- A slice of slices of bytes reads as ls. -/
structure ReadsBB (W : World) (A : Option Addr) (n : Nat) (ls : List (List UInt8)) : Prop where
  h : ∃ vs : List Value, Reads W A n 1 vs ∧ vs.length = ls.length ∧ n = ls.length ∧ ∀ (i : Nat) (l : List UInt8), ls[i]? = some l → ∃ B c, vs[i]? = some (.slice B l.length c) ∧ Reads W B l.length 1 (B8 l)

/-- A [][]byte. -/
theorem open_bytess {T S E : TypeId} {fuel : Nat} {cs : List Value} {x : DataW H × List MemPlace} (hT : P.underlying T = some (.slice S)) (hS : P.underlying S = some (.slice E)) (hE : P.underlying E = some (.int .u8)) (hc : P.cellsOf S = 1) (hc2 : P.cellsOf E = 1)
    (h : DataW.trod enc P W 0 (fun _ => true) true fuel T cs = some x) : ∃ A n c, ∃ ls : List (List UInt8), cs = [.slice A n c] ∧ n = ls.length ∧ ReadsBB W A n ls ∧ ls.length + 1 ≤ Rows.uptoBulk x.1 ∧ ls.flatten.length + 1 ≤ Rows.uptoBulk x.1 := by
  obtain ⟨A, n, c, vs, ys, ds, sp, rfl, hn, hr, hv, hx, hd, hel⟩ := open_list hT hc h (fun v (y : List UInt8) => ∃ B k, v = .slice B y.length k ∧ Reads W B y.length 1 (B8 y)) (fun v d p k hk => by
    obtain ⟨B, m, c', l, hz, rfl, hr, _⟩ := open_bytes hS hE hc2 hk
    exact ⟨l, B, c', by simpa using hz, hr⟩)
  refine ⟨A, n, c, ys, rfl, hn, ⟨vs, hr, by omega, hn, fun i l hl => ?_⟩, ?_, ?_⟩
  · obtain ⟨v, d, p, k, h1, _, ⟨B, k', rfl, h2⟩, _⟩ := hel i l hl
    exact ⟨B, k', h1, h2⟩
  · rcases hx with hx | ⟨hx, h0⟩
    · rw [hx]; have := bulk_slice ds sp; omega
    · have h9 : ys.length = 0 := by rw [h0] at hd; simp at hd; omega
      rw [hx]; simp [Rows.uptoBulk, h9]
  · have hsum := bulk_sum (H := H) List.length ys ds (by omega) (fun i y d h1 h2 => by
      obtain ⟨v, d', p, k, h3, h4, ⟨B, k', rfl, h5⟩, h6⟩ := hel i y h1
      rw [h4] at h2; cases h2
      obtain ⟨_, _, _, l', e1, e2, _, e3⟩ := open_bytes hS hE hc2 h6
      simp at e1
      have : l'.length = y.length := by rw [← e2, e1.2.1]
      simp only at e3; omega)
    have hf : ys.flatten.length = (ys.map List.length).sum := by simp [List.length_flatten]
    rcases hx with hx | ⟨hx, h0⟩
    · rw [hx, hf]; simp only [Rows.uptoBulk]; omega
    · rw [hx, hf]; subst h0; simp [Rows.uptoBulkAll] at hsum; simp [Rows.uptoBulk, hsum]

/-- The arguments read as they did. -/
theorem args_stay (hl : laidOutB P = true) {W' : World} (hb : Below W.heap.size W W') : ∀ {ts : List TypeId} {vs : List Value} {ds : List (DataW H)} {ps : List MemPlace}, (∀ t ∈ ts, P.readableRec t = true ∧ t < P.types.size) → (∀ x ∈ ps, x.block < W.heap.size) →
    DataW.TrodAll enc P W 0 (fun _ => true) true ts vs ds ps → DataW.TrodAll enc P W' 0 (fun b => decide (b < W.heap.size)) true ts vs ds ps
  | [], [], [], _, _, _, h => h
  | t :: ts, v :: vs, d :: ds, ps, hr, hp, h => by
    obtain ⟨p, q, h1, h2, rfl⟩ := h
    have ht := hr t (by simp)
    exact ⟨p, q, Below.trod hl ht.1 ht.2 h1 hb (fun x hx => hp x (by simp [hx])), args_stay hl hb (fun t ht => hr t (by simp [ht])) (fun x hx => hp x (by simp [hx])) h2, rfl⟩
  | [], [], _ :: _, _, _, _, h => h.elim
  | [], _ :: _, _, _, _, _, h => by cases ‹List (DataW H)› <;> exact h.elim
  | _ :: _, [], _, _, _, _, h => h.elim
  | _ :: _, _ :: _, [], _, _, _, h => h.elim

/-- A law: it has returned true, below nothing has turned: its row's post. -/
theorem law_post {f : Func} {s : ChangeSpec} {W' : World} {args : Array Value} {ds : List (DataW H)} {before : List MemPlace} {tb : TypeId} (hW : DataW.Whole enc P f.params.toList s.vars false W args.toList ds [] before)
    (hl : laidOutB P = true) (hr : f.params.toList.all (fun t => P.readableRec t && decide (t < P.types.size)) = true) (hv : s.vars = []) (hres : f.resultTypes = #[tb]) (hb : P.underlying tb = some .bool)
    (h1 : (s.fn H (ds ++ [])).results = [.lit (.bool true)]) (h2 : (s.fn H (ds ++ [])).args = ds) (h3 : (s.fn H (ds ++ [])).vars = []) (hB : Below W.heap.size W W') : s.post enc P f false true false false W args (.bool true) W' := by
  have hlt : ∀ p ∈ before, p.block < W.heap.size := fun p hp => hW.lt p hp
  obtain ⟨p, q, hA, hV, rfl, hfz, hnd⟩ := hW
  rw [hv] at hV
  have hq : q = [] := hV
  subst hq
  refine ⟨ds, [], p ++ [], [], p, [], ⟨p, [], hA, by rw [hv]; rfl, rfl, hfz, hnd⟩, ?_, ?_, ?_, hB.frame _, fun h => by cases h⟩
  · rw [h1, hres]
    exact ⟨[], [], ⟨1, by simp [DataW.trod, hb, Value.cells]⟩, rfl, rfl⟩
  · rw [h2]
    exact args_stay hl hB (fun t ht => by
      have := List.all_eq_true.1 hr t ht
      simpa using this) (fun x hx => hlt x (by simp [hx])) hA
  · rw [h3, hv]; rfl
end
end Go.Proofs.Ytiofgdgmlnhekaa

/-
  Arguments of a law's row as values of one's own: slices of structs, structs.
-/
namespace Go.Proofs.Ytiofgdgmlnhekaa
open Go Go.RowKit Sl Go.Deep Go.ChangeShapes Go.WideShapes Go.ChangeAt

theorem list_choose {α : Type} {p : Nat → α → Prop} : ∀ (n : Nat), (∀ i, i < n → ∃ y, p i y) → ∃ ys : List α, ys.length = n ∧ ∀ i y, ys[i]? = some y → p i y
  | 0, _ => ⟨[], rfl, fun i y h => by simp at h⟩
  | n + 1, h => by
    obtain ⟨ys, h1, h2⟩ := list_choose n (fun i hi => h i (by omega))
    obtain ⟨y, hy⟩ := h n (by omega)
    refine ⟨ys ++ [y], by simp [h1], fun i z hz => ?_⟩
    by_cases hi : i < n
    · rw [List.getElem?_append_left (by omega)] at hz; exact h2 i z hz
    · have hlt : i < n + 1 := by
        have := (List.getElem?_eq_some_iff.1 hz).1
        simp [h1] at this; omega
      obtain rfl : i = n := by omega
      rw [List.getElem?_append_right (by omega), h1] at hz
      simp at hz; subst hz; exact hy

section
variable {H : Type} {enc : TypeId × Value → H} {P : Program} {W : World}

/-- A slice of whatever. -/
theorem open_slV {α : Type} {f : IsV α} {wt : α → Nat} {T E sz : Nat} {fuel : Nat} {cs : List Value} {x : DataW H × List MemPlace} (hT : P.underlying T = some (.slice E)) (hc : P.cellsOf E = sz) (hz : 0 < sz)
    (hf : ∀ fuel cs (x : DataW H × List MemPlace), DataW.trod enc P W 0 (fun _ => true) true fuel E cs = some x → ∃ y, f (Reads W) cs y ∧ wt y ≤ Rows.uptoBulk x.1)
    (h : DataW.trod enc P W 0 (fun _ => true) true fuel T cs = some x) : ∃ xs : List α, SlV f sz (Reads W) cs xs ∧ xs.length + 1 ≤ Rows.uptoBulk x.1 ∧ (xs.map wt).sum + 1 ≤ Rows.uptoBulk x.1 := by
  rcases DataW.trod_slice hT h with ⟨rfl, rfl⟩ | ⟨a, len, cap, elems, spare, n, _, rfl, rfl, _, hl, hm, hlen, hel, _, _⟩
  · exact ⟨[], ⟨none, 0, [], rfl, ⟨by simp, fun _ => rfl, fun _ e => by cases e⟩, by simp, fun i y hy => by simp at hy⟩, by simp [Rows.uptoBulk], by simp [Rows.uptoBulk]⟩
  · have key : ∀ i, i < len → ∃ ci e, W.cells? 0 (a.add (i * sz)) sz = some ci ∧ DataW.trod enc P W 0 (fun _ => true) true n E ci = some e ∧ elems[i]? = some e := fun i hi => by
      have h1 := hel i hi
      rw [hc] at h1
      obtain ⟨e, he⟩ : ∃ e, elems[i]? = some e := ⟨elems[i]'(by omega), List.getElem?_eq_getElem _⟩
      rw [he] at h1
      cases hq : W.cells? 0 (a.add (i * sz)) sz with
      | none => rw [hq] at h1; simp at h1
      | some ci => rw [hq] at h1; exact ⟨ci, e, rfl, h1, he⟩
    let vs := (List.range (len * sz)).map fun j => (W.cell? (a.add j)).getD undef
    have hadd : ∀ i j, (a.add (i * sz)).add j = a.add (i * sz + j) := fun i j => Addr.add_add a (i * sz) j
    have cell : ∀ i, i < len → ∀ ci, W.cells? 0 (a.add (i * sz)) sz = some ci → ∀ j, j < sz → W.cell? (a.add (i * sz + j)) = ci[j]? := fun i hi ci hci j hj => by
      obtain ⟨_, _, h3⟩ := World.cells?_some hci
      rw [← hadd]; exact h3 j hj
    have hvl : vs.length = len * sz := by simp [vs]
    have hcut : ∀ i, i < len → ∀ ci, W.cells? 0 (a.add (i * sz)) sz = some ci → (vs.drop (i * sz)).take sz = ci := fun i hi ci hci => by
      obtain ⟨_, h2, _⟩ := World.cells?_some hci
      have hle : (i + 1) * sz ≤ len * sz := Nat.mul_le_mul_right _ hi
      rw [Nat.add_mul, Nat.one_mul] at hle
      apply List.ext_getElem?
      intro j
      by_cases hj : j < sz
      · have := cell i hi ci hci j hj
        rw [List.getElem?_take, if_pos hj, List.getElem?_drop]
        simp only [vs]
        rw [List.getElem?_map, List.getElem?_range (by omega)]
        simp only [Option.map_some]
        rw [this, List.getElem?_eq_getElem (by omega)]
        rfl
      · rw [List.getElem?_eq_none (by simp; omega), List.getElem?_eq_none (by omega)]
    have hreads : Reads W (some a) len sz vs := by
      refine ⟨hvl, fun e => (by cases e), fun b e j u hu => ?_⟩
      cases e
      have hj : j < len * sz := by have := (List.getElem?_eq_some_iff.1 hu).1; omega
      have hi : j / sz < len := Nat.div_lt_of_lt_mul (by rw [Nat.mul_comm]; exact hj)
      have hl0 : 0 < len := Nat.lt_of_le_of_lt (Nat.zero_le _) hi
      obtain ⟨ci, e, h1, _, _⟩ := key (j / sz) hi
      have hr : j % sz < sz := Nat.mod_lt _ hz
      have hj2 : j / sz * sz + j % sz = j := by rw [Nat.mul_comm]; exact Nat.div_add_mod j sz
      have h4 := cell (j / sz) hi ci h1 (j % sz) hr
      rw [hj2] at h4
      obtain ⟨_, h2, _⟩ := World.cells?_some h1
      rw [List.getElem?_eq_getElem (by omega)] at h4
      have hu' : u = ci[j % sz]'(by omega) := by
        simp only [vs] at hu
        rw [List.getElem?_map, List.getElem?_range hj] at hu
        simp only [Option.map_some, h4, Option.getD_some, Option.some.injEq] at hu
        exact hu.symm
      have hs : a.spot = none := by
        obtain ⟨c0, e0, k1, _, _⟩ := key 0 hl0
        have k2 := cell 0 hl0 c0 k1 0 hz
        obtain ⟨_, k3, _⟩ := World.cells?_some k1
        rw [List.getElem?_eq_getElem (by omega), Nat.zero_mul] at k2
        have := spot_none k2
        simpa [Addr.add] using this
      refine ⟨hs, ?_⟩
      rw [← addr_add a hs, h4, hu']
    obtain ⟨ys, hy1, hy2⟩ := list_choose (p := fun i y => ∃ ci e, W.cells? 0 (a.add (i * sz)) sz = some ci ∧ elems[i]? = some e ∧ f (Reads W) ci y ∧ wt y ≤ Rows.uptoBulk e.1) len (fun i hi => by
      obtain ⟨ci, e, h1, h2, h3⟩ := key i hi
      obtain ⟨y, h4, h5⟩ := hf _ _ _ h2
      exact ⟨y, ci, e, h1, h3, h4, h5⟩)
    refine ⟨ys, ⟨some a, cap, vs, by rw [hy1], by rw [hy1]; exact hreads, by rw [hy1]; exact hvl, fun i y hy => ?_⟩, ?_, ?_⟩
    · obtain ⟨ci, e, h1, h2, h3, _⟩ := hy2 i y hy
      have hi : i < len := by have := (List.getElem?_eq_some_iff.1 hy).1; omega
      rw [hcut i hi ci h1]; exact h3
    · have := bulk_slice (elems.map (·.1)) (spare.map (·.1))
      simp only [List.length_map] at this
      simp only; rw [hy1]; omega
    · have := bulk_sum wt ys (elems.map (·.1)) (by simp; omega) (fun i y d h1 h2 => by
        obtain ⟨ci, e, _, h3, _, h4⟩ := hy2 i y h1
        rw [List.getElem?_map, h3] at h2
        cases h2; exact h4)
      simp only [Rows.uptoBulk]; omega

theorem open_bytesV {T E : TypeId} {fuel : Nat} {cs : List Value} {x : DataW H × List MemPlace} (hT : P.underlying T = some (.slice E)) (hE : P.underlying E = some (.int .u8)) (hc : P.cellsOf E = 1)
    (h : DataW.trod enc P W 0 (fun _ => true) true fuel T cs = some x) : ∃ l : List UInt8, BytesV (Reads W) cs l ∧ l.length + 1 ≤ Rows.uptoBulk x.1 := by
  obtain ⟨A, n, c, l, rfl, rfl, hr, hb⟩ := open_bytes hT hE hc h
  exact ⟨l, ⟨A, c, rfl, hr⟩, hb⟩

theorem open_intV {T : TypeId} {fuel : Nat} {cs : List Value} {x : DataW H × List MemPlace} (hT : P.underlying T = some (.int .i64))
    (h : DataW.trod enc P W 0 (fun _ => true) true fuel T cs = some x) : ∃ n : Int, cs = [.int .i64 n] ∧ (-9223372036854775808 ≤ n ∧ n ≤ 9223372036854775807) ∧ 1 ≤ Rows.uptoBulk x.1 := by
  obtain ⟨n, rfl, rfl, hw⟩ := DataW.trod_int hT h
  exact ⟨n, rfl, wf_i64 hw, by simp [Rows.uptoBulk]⟩

theorem open_boolV {T : TypeId} {fuel : Nat} {cs : List Value} {x : DataW H × List MemPlace} (hT : P.underlying T = some .bool)
    (h : DataW.trod enc P W 0 (fun _ => true) true fuel T cs = some x) : ∃ b : Bool, cs = [.bool b] ∧ 1 ≤ Rows.uptoBulk x.1 := by
  obtain ⟨b, rfl, rfl⟩ := DataW.trod_bool hT h
  exact ⟨b, rfl, by simp [Rows.uptoBulk]⟩
end

end Go.Proofs.Ytiofgdgmlnhekaa
