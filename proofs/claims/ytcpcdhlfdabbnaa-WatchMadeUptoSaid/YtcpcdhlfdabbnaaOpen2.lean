/-
  Arguments of a law's row as values of one's own: slices of structs, structs.
-/
import Derived.Test.YtcpcdhlfdabbnaaShape
import Derived.Test.YtcpcdhlfdabbnaaOpen
import Derived.Test.YtcpcdhlfdabbnaaEnt3
namespace Go.Proofs.Ytcpcdhlfdabbnaa
open Go Go.RowKit Sl Go.Deep Go.ChangeShapes Go.WideShapes Go.ChangeAt

theorem list_choose {α : Type} {p : Nat → α → Prop} : ∀ (n : Nat), (∀ i, i < n → ∃ y, p i y) → ∃ ys : List α, ys.length = n ∧ ∀ i y, ys[i]? = some y → p i y
  | 0, _ => ⟨[], rfl, fun i y h => by simp at h⟩
  | n + 1, h => by
    obtain ⟨ys, h1, h2⟩ := list_choose n (fun i hi => h i (by omega))
    obtain ⟨y, hy⟩ := h n (by omega)
    refine ⟨ys ++ [y], by simp [h1], fun i z hz => ?_⟩
    by_cases hi : i < n
    · rw [List.getElem?_append_left (by omega)] at hz; exact h2 i z hz
    · have hlt : i < n + 1 := by
        have := (List.getElem?_eq_some_iff.1 hz).1
        simp [h1] at this; omega
      obtain rfl : i = n := by omega
      rw [List.getElem?_append_right (by omega), h1] at hz
      simp at hz; subst hz; exact hy

section
variable {H : Type} {enc : TypeId × Value → H} {P : Program} {W : World}

/-- A slice of whatever. -/
theorem open_slV {α : Type} {f : IsV α} {wt : α → Nat} {T E sz : Nat} {fuel : Nat} {cs : List Value} {x : DataW H × List MemPlace} (hT : P.underlying T = some (.slice E)) (hc : P.cellsOf E = sz) (hz : 0 < sz)
    (hf : ∀ fuel cs (x : DataW H × List MemPlace), DataW.trod enc P W 0 (fun _ => true) true fuel E cs = some x → ∃ y, f (Reads W) cs y ∧ wt y ≤ Rows.uptoBulk x.1)
    (h : DataW.trod enc P W 0 (fun _ => true) true fuel T cs = some x) : ∃ xs : List α, SlV f sz (Reads W) cs xs ∧ xs.length + 1 ≤ Rows.uptoBulk x.1 ∧ (xs.map wt).sum + 1 ≤ Rows.uptoBulk x.1 := by
  rcases DataW.trod_slice hT h with ⟨rfl, rfl⟩ | ⟨a, len, cap, elems, spare, n, _, rfl, rfl, _, hl, hm, hlen, hel, _, _⟩
  · exact ⟨[], ⟨none, 0, [], rfl, ⟨by simp, fun _ => rfl, fun _ e => by cases e⟩, by simp, fun i y hy => by simp at hy⟩, by simp [Rows.uptoBulk], by simp [Rows.uptoBulk]⟩
  · have key : ∀ i, i < len → ∃ ci e, W.cells? 0 (a.add (i * sz)) sz = some ci ∧ DataW.trod enc P W 0 (fun _ => true) true n E ci = some e ∧ elems[i]? = some e := fun i hi => by
      have h1 := hel i hi
      rw [hc] at h1
      obtain ⟨e, he⟩ : ∃ e, elems[i]? = some e := ⟨elems[i]'(by omega), List.getElem?_eq_getElem _⟩
      rw [he] at h1
      cases hq : W.cells? 0 (a.add (i * sz)) sz with
      | none => rw [hq] at h1; simp at h1
      | some ci => rw [hq] at h1; exact ⟨ci, e, rfl, h1, he⟩
    let vs := (List.range (len * sz)).map fun j => (W.cell? (a.add j)).getD undef
    have hadd : ∀ i j, (a.add (i * sz)).add j = a.add (i * sz + j) := fun i j => Addr.add_add a (i * sz) j
    have cell : ∀ i, i < len → ∀ ci, W.cells? 0 (a.add (i * sz)) sz = some ci → ∀ j, j < sz → W.cell? (a.add (i * sz + j)) = ci[j]? := fun i hi ci hci j hj => by
      obtain ⟨_, _, h3⟩ := World.cells?_some hci
      rw [← hadd]; exact h3 j hj
    have hvl : vs.length = len * sz := by simp [vs]
    have hcut : ∀ i, i < len → ∀ ci, W.cells? 0 (a.add (i * sz)) sz = some ci → (vs.drop (i * sz)).take sz = ci := fun i hi ci hci => by
      obtain ⟨_, h2, _⟩ := World.cells?_some hci
      have hle : (i + 1) * sz ≤ len * sz := Nat.mul_le_mul_right _ hi
      rw [Nat.add_mul, Nat.one_mul] at hle
      apply List.ext_getElem?
      intro j
      by_cases hj : j < sz
      · have := cell i hi ci hci j hj
        rw [List.getElem?_take, if_pos hj, List.getElem?_drop]
        simp only [vs]
        rw [List.getElem?_map, List.getElem?_range (by omega)]
        simp only [Option.map_some]
        rw [this, List.getElem?_eq_getElem (by omega)]
        rfl
      · rw [List.getElem?_eq_none (by simp; omega), List.getElem?_eq_none (by omega)]
    have hreads : Reads W (some a) len sz vs := by
      refine ⟨hvl, fun e => (by cases e), fun b e j u hu => ?_⟩
      cases e
      have hj : j < len * sz := by have := (List.getElem?_eq_some_iff.1 hu).1; omega
      have hi : j / sz < len := Nat.div_lt_of_lt_mul (by rw [Nat.mul_comm]; exact hj)
      have hl0 : 0 < len := Nat.lt_of_le_of_lt (Nat.zero_le _) hi
      obtain ⟨ci, e, h1, _, _⟩ := key (j / sz) hi
      have hr : j % sz < sz := Nat.mod_lt _ hz
      have hj2 : j / sz * sz + j % sz = j := by rw [Nat.mul_comm]; exact Nat.div_add_mod j sz
      have h4 := cell (j / sz) hi ci h1 (j % sz) hr
      rw [hj2] at h4
      obtain ⟨_, h2, _⟩ := World.cells?_some h1
      rw [List.getElem?_eq_getElem (by omega)] at h4
      have hu' : u = ci[j % sz]'(by omega) := by
        simp only [vs] at hu
        rw [List.getElem?_map, List.getElem?_range hj] at hu
        simp only [Option.map_some, h4, Option.getD_some, Option.some.injEq] at hu
        exact hu.symm
      have hs : a.spot = none := by
        obtain ⟨c0, e0, k1, _, _⟩ := key 0 hl0
        have k2 := cell 0 hl0 c0 k1 0 hz
        obtain ⟨_, k3, _⟩ := World.cells?_some k1
        rw [List.getElem?_eq_getElem (by omega), Nat.zero_mul] at k2
        have := spot_none k2
        simpa [Addr.add] using this
      refine ⟨hs, ?_⟩
      rw [← addr_add a hs, h4, hu']
    obtain ⟨ys, hy1, hy2⟩ := list_choose (p := fun i y => ∃ ci e, W.cells? 0 (a.add (i * sz)) sz = some ci ∧ elems[i]? = some e ∧ f (Reads W) ci y ∧ wt y ≤ Rows.uptoBulk e.1) len (fun i hi => by
      obtain ⟨ci, e, h1, h2, h3⟩ := key i hi
      obtain ⟨y, h4, h5⟩ := hf _ _ _ h2
      exact ⟨y, ci, e, h1, h3, h4, h5⟩)
    refine ⟨ys, ⟨some a, cap, vs, by rw [hy1], by rw [hy1]; exact hreads, by rw [hy1]; exact hvl, fun i y hy => ?_⟩, ?_, ?_⟩
    · obtain ⟨ci, e, h1, h2, h3, _⟩ := hy2 i y hy
      have hi : i < len := by have := (List.getElem?_eq_some_iff.1 hy).1; omega
      rw [hcut i hi ci h1]; exact h3
    · have := bulk_slice (elems.map (·.1)) (spare.map (·.1))
      simp only [List.length_map] at this
      simp only; rw [hy1]; omega
    · have := bulk_sum wt ys (elems.map (·.1)) (by simp; omega) (fun i y d h1 h2 => by
        obtain ⟨ci, e, _, h3, _, h4⟩ := hy2 i y h1
        rw [List.getElem?_map, h3] at h2
        cases h2; exact h4)
      simp only [Rows.uptoBulk]; omega

theorem open_bytesV {T E : TypeId} {fuel : Nat} {cs : List Value} {x : DataW H × List MemPlace} (hT : P.underlying T = some (.slice E)) (hE : P.underlying E = some (.int .u8)) (hc : P.cellsOf E = 1)
    (h : DataW.trod enc P W 0 (fun _ => true) true fuel T cs = some x) : ∃ l : List UInt8, BytesV (Reads W) cs l ∧ l.length + 1 ≤ Rows.uptoBulk x.1 := by
  obtain ⟨A, n, c, l, rfl, rfl, hr, hb⟩ := open_bytes hT hE hc h
  exact ⟨l, ⟨A, c, rfl, hr⟩, hb⟩

theorem open_intV {T : TypeId} {fuel : Nat} {cs : List Value} {x : DataW H × List MemPlace} (hT : P.underlying T = some (.int .i64))
    (h : DataW.trod enc P W 0 (fun _ => true) true fuel T cs = some x) : ∃ n : Int, cs = [.int .i64 n] ∧ (-9223372036854775808 ≤ n ∧ n ≤ 9223372036854775807) ∧ 1 ≤ Rows.uptoBulk x.1 := by
  obtain ⟨n, rfl, rfl, hw⟩ := DataW.trod_int hT h
  exact ⟨n, rfl, wf_i64 hw, by simp [Rows.uptoBulk]⟩

theorem open_boolV {T : TypeId} {fuel : Nat} {cs : List Value} {x : DataW H × List MemPlace} (hT : P.underlying T = some .bool)
    (h : DataW.trod enc P W 0 (fun _ => true) true fuel T cs = some x) : ∃ b : Bool, cs = [.bool b] ∧ 1 ≤ Rows.uptoBulk x.1 := by
  obtain ⟨b, rfl, rfl⟩ := DataW.trod_bool hT h
  exact ⟨b, rfl, by simp [Rows.uptoBulk]⟩
end

section
variable {H : Type} {enc : TypeId × Value → H} {W : World}
set_option maxRecDepth 100000 in
theorem open_entry {fuel : Nat} {cs : List Value} {x : DataW H × List MemPlace} (h : DataW.trod enc Try.prog W 0 (fun _ => true) true fuel 46 cs = some x) :
    ∃ e : Ent, EntV (Reads W) cs e ∧ e.d.length + 5 ≤ Rows.uptoBulk x.1 := by
  obtain ⟨xs, n, _, rfl, hl, hlen, hf⟩ := DataW.trod_struct Try.underlying46 h
  rw [show Try.prog.cellsOf 46 = 4 from by kernel_rfl] at hl
  match cs, hl with
  | [c0, c1, c2, c3], _ =>
  match xs, hlen with
  | [y0, y1, y2, y3], _ =>
    have h0 := hf 0 _ rfl
    have h1 := hf 1 _ rfl
    have h2 := hf 2 _ rfl
    have h3 := hf 3 _ rfl
    dsimp only [List.getElem_toArray, List.getElem_cons_zero, List.getElem_cons_succ] at h0 h1 h2 h3
    rw [show Try.prog.cellsOf 3 = 1 from by kernel_rfl] at h0 h1 h2
    rw [show Try.prog.cellsOf 44 = 1 from by kernel_rfl] at h3
    obtain ⟨t, e0, b0, w0⟩ := open_intV Try.underlying3 h0
    obtain ⟨i, e1, b1, w1⟩ := open_intV Try.underlying3 h1
    obtain ⟨k, e2, b2, w2⟩ := open_intV Try.underlying3 h2
    obtain ⟨d, ⟨A, c, e3, hr⟩, w3⟩ := open_bytesV Try.underlying44 Try.underlying5 (by kernel_rfl) h3
    simp at e0 e1 e2 e3
    subst e0 e1 e2 e3
    refine ⟨⟨t, i, k, d⟩, ⟨⟨A, c, rfl, hr⟩, b0, b1, b2⟩, ?_⟩
    simp [Rows.uptoBulk, Rows.uptoBulkAll]; omega
end
end Go.Proofs.Ytcpcdhlfdabbnaa
