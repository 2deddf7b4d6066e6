/-
  slices.Sorted over a map's keys.
-/
import Derived.Test.YtdlimjcidblneaaSs2
import Derived.Test.YtdlimjcidblneaaSs3
namespace Go.Proofs.Ytdlimjcidblneaa
open Go Go.RowKit Sl Go.Maps

theorem sortedKeys_spec {w0 w : World} {L : List HP} {bk b : Nat} {l : List (Int × Value)} (hl : l.length ≤ 1048576) (hs : Sat w0 w (blk bk (.cells #[.map (some b)] 72 (0, 0)) :: mp (Value.int .i64) In64 b l :: L)) :
    Calls Try.prog 49 #[.func (.func 69) #[] #[.pointer (some ⟨bk, 0, none⟩)]] w
      (fun e w' => ∃ (A : Option Addr) (c : Nat) (ss : List Int), ss.Perm (l.map (·.1)) ∧ e = .returned (.slice A ss.length c) ∧ Sat w0 w' (own 3 1 A c ss.length (I8 (ss.mergeSort (fun x y => decide (x ≤ y)))) :: mp (Value.int .i64) In64 b l :: L)) := by
  obtain ⟨D, h1, h2, h3⟩ := mp_owns (hs.pick (T := mp (Value.int .i64) In64 b l :: L) (by (repeat (first | exact Pick.nil _ | exact Pick.tail _ | exact Out.here _ | apply Out.there | apply Pick.cons | apply Pick.drop)))) hl
  have hg := hs.get (.here _)
  have hm : w.cell? ⟨bk, 0, none⟩ = some (.map (some b)) := (Cl.blk rfl) w hs
  refine (sorted_call bk b l.length D w (Array.getElem?_eq_some_iff.1 hg).1 hm h1 (by rw [h3]; simp only [maxLen]; omega) (by rw [h3]; omega)).mono ?_
  rintro e w' ⟨v, ss, rfl, hp, hr, _, hb⟩
  obtain ⟨A, c, rfl, hs2⟩ := Sat.of_row hs.tail hb hr
  exact ⟨A, c, ss, hp.trans h2, rfl, hs2⟩
end Go.Proofs.Ytdlimjcidblneaa
