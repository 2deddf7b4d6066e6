/-
  slices.Sorted over the keys of a directory.
-/
import Derived.Test.YtiofgdgmlnhekaaVdL
import Derived.Test.YtiofgdgmlnhekaaVd12
import Derived.Test.YtiofgdgmlnhekaaSs3
import Derived.Below
namespace Go.Proofs.Ytiofgdgmlnhekaa
open Go Go.RowKit Go.Maps Go.Sort Go.Shelf Sl Go.WideElems
set_option maxHeartbeats 4000000

theorem sortsS (m : Nat) : AnyZ.SortsIn Try.prog sortedS_ren Fence.wide m :=
  ⟨fun blk off cap ss W hH hblk hsz => callsIn_wide.2 (AnyM.slices_Sort_string sortS blk off cap ss W hH hblk hsz),
   fun p cap W => callsIn_wide.2 (AnyM.slices_Sort_string_none sortS p cap W)⟩

theorem keysS_gives {H : Type} (bk b nn : Nat) (D0 : DataW H) {R : Value → Option (DataW H × List MemPlace)} (w : World) (hBm : bk < w.heap.size) (hm : w.cell? ⟨bk, 0, none⟩ = some (.map (some b))) (hown : w.ownsMap Try.prog 9 R b nn D0) :
    SeqGives Fence.wide 2 Try.prog 45 #[.pointer (some ⟨bk, 0, none⟩)] encStr (fun ss => ss.Perm (strKeys D0)) (Maps.size D0) w :=
  AnyZ.keys_gives (ρ := keysS_ren) { keysS with } Fence.wide _ trivial rfl (by omega) bk b nn D0 w hBm hm hown

theorem sortedS_call {H : Type} (bk b nn : Nat) (D0 : DataW H) {R : Value → Option (DataW H × List MemPlace)} (w : World) (hBm : bk < w.heap.size) (hm : w.cell? ⟨bk, 0, none⟩ = some (.map (some b))) (hown : w.ownsMap Try.prog 9 R b nn D0) (hmax : Maps.size D0 ≤ maxLen) (hbytes : Maps.size D0 * 16 ≤ 140737488355328) :
    Calls Try.prog 33 #[.func (.func 45) #[] #[.pointer (some ⟨bk, 0, none⟩)]] w fun e w' => ∃ (v : Value) (ss : List (List UInt8)), e = .returned v ∧ ss.Perm (strKeys D0) ∧
      w'.ownsRow w.heap.size 9 1 v ss.length ((ss.mergeSort (fun x y => decide (x ≤ y))).map encStr) ∧ (v = .slice none 0 0 ↔ ss = []) ∧ Below w.heap.size w w' :=
  callsIn_wide.1 (AnyZ.sorted_in sortedS Fence.wide 5 trivial trivial trivial trivial rfl (by omega) (sortsS _) (enters_of Try.func44 (by kernel_rfl) rfl) 45 #[.pointer (some ⟨bk, 0, none⟩)] trivial (enters_of Try.func45 (by kernel_rfl) rfl) _ _ hmax hbytes w (keysS_gives bk b nn D0 w hBm hm hown))

/-- Whatever an element is, it reads as this. -/
abbrev anyS : Value → Option (DataW Unit × List MemPlace) := fun _ => some (.lit (.bool true), [])

theorem keyOf_str {x : List UInt8} (hx : okS x) : keyOf Try.prog 9 (sV x) = some (.string x) := by
  unfold okS at hx
  simp [keyOf, Try.underlying9, mapKey, sV, ByteArray.size, maxLen]
  omega

theorem mpS_owns {w0 w : World} {L : List HP} {b : Nat} {l : List (Nm × Value)} (hs : Sat w0 w (mp sV okS b l :: L)) (hl : l.length ≤ 1048576) :
    ∃ D : DataW Unit, w.ownsMap Try.prog 9 anyS b l.length D ∧ (strKeys D).Perm (l.map (·.1)) ∧ Maps.size D = l.length := by
  obtain ⟨es, clock, _, hb, h1, h2, h3⟩ := hs.mp_inv
  have hlen : es.size = l.length := by have := congrArg List.length h2; simpa using this
  have hk : ∀ x ∈ es.toList, ∃ a, (a, x.val) ∈ l ∧ x.key = sV a ∧ keyOf Try.prog 9 x.key = some (.string a) := fun x hx => by
    have h4 : (x.key, x.val) ∈ l.map (fun p => (sV p.1, p.2)) := by rw [← h2]; exact List.mem_map.2 ⟨x, hx, rfl⟩
    obtain ⟨p, hp, e⟩ := List.mem_map.1 h4
    simp only [Prod.mk.injEq] at e
    refine ⟨p.1, by rw [← e.2]; exact hp, e.1.symm, ?_⟩
    rw [← e.1]
    exact keyOf_str (h3 p hp)
  have hr : ∀ x ∈ es.toList, Go.WideElems.rd Try.prog 9 anyS x = (keyOf Try.prog 9 x.key).map fun k => (k, .lit (.bool true)) := fun x _ => by
    unfold Go.WideElems.rd; cases keyOf Try.prog 9 x.key <;> rfl
  refine ⟨_, ⟨es, clock, hb, ⟨by rw [hlen]; simp only [maxLen]; omega, h1, fun x hx => ?_⟩, by omega, rfl⟩, ?_, ?_⟩
  · obtain ⟨a, _, _, h5⟩ := hk x hx
    exact ⟨_, by rw [hr x hx, h5]; rfl⟩
  · simp only [strKeys]
    refine ((WideShapes.sorted_perm _).map _).trans (List.Perm.of_eq ?_)
    have e1 : l.map (·.1) = (es.toList.map fun e => (e.key, e.val)).map fun q => match q.1 with | .string a => a.data.toList | _ => [] := by rw [h2]; simp [sV]
    rw [e1]
    simp only [List.map_map]
    refine List.map_congr_left fun x hx => ?_
    obtain ⟨a, _, h6, h5⟩ := hk x hx
    rw [h6] at h5
    simp only [Function.comp, WideElems.rg, hr x hx, h6, h5, Option.map_some, Option.getD_some, strOf]
    simp [sV]
  · simp only [Maps.size, (WideShapes.sorted_perm _).length_eq, List.length_map, Array.length_toList, hlen]

theorem sortedKeysS_spec {w0 w : World} {L : List HP} {bk b : Nat} {l : List (Nm × Value)} (hl : l.length ≤ 1048576) (hs : Sat w0 w (blk bk (.cells #[.map (some b)] 52 (0, 0)) :: mp sV okS b l :: L)) :
    Calls Try.prog 33 #[.func (.func 45) #[] #[.pointer (some ⟨bk, 0, none⟩)]] w
      (fun e w' => ∃ (A : Option Addr) (c : Nat), e = .returned (.slice A l.length c) ∧ Sat w0 w' (own 9 1 A c l.length (N8 (nmSort (l.map (·.1)))) :: mp sV okS b l :: L)) := by
  obtain ⟨D, h1, h2, h3⟩ := mpS_owns (hs.pick (T := mp sV okS b l :: L) (by (repeat (first | exact Pick.nil _ | exact Pick.tail _ | exact Out.here _ | apply Out.there | apply Pick.cons | apply Pick.drop)))) hl
  have hg := hs.get (.here _)
  have hm : w.cell? ⟨bk, 0, none⟩ = some (.map (some b)) := (Cl.blk rfl) w hs
  refine (sortedS_call bk b l.length D w (Array.getElem?_eq_some_iff.1 hg).1 hm h1 (by rw [h3]; simp only [maxLen]; omega) (by rw [h3]; omega)).mono ?_
  rintro e w' ⟨v, ss, rfl, hp, hr, _, hb⟩
  have hp2 : ss.Perm (l.map (·.1)) := hp.trans h2
  have hlen : ss.length = l.length := by rw [hp2.length_eq, List.length_map]
  rw [sort_eq hp2, hlen] at hr
  obtain ⟨A, c, rfl, hs2⟩ := Sat.of_row hs.tail hb hr
  exact ⟨A, c, rfl, hs2⟩

abbrev keysFnS (bk : Nat) : Value := .func (.func 45) #[] #[.pointer (some ⟨bk, 0, none⟩)]

theorem keysCS_spec {w0 w : World} {L : List HP} {b : Nat} (hs : Sat w0 w L) :
    Calls Try.prog 34 #[.map (some b)] w (fun e w' => ∃ bk, e = .returned (keysFnS bk) ∧ Sat w0 w' (blk bk (.cells #[.map (some b)] 52 (0, 0)) :: L)) := by
  go_enter Try.func34, Try.ntmps34
  refine wk_seq (fun K0 hK0 => ?_); refine wk_reg ?_; refine pl_eff rfl (fun Kp hKp => ?_); ((with_reducible apply st_box); assumption; (go_simp; rfl); intro b1 w1 hs1; simp only [Value.cells] at hs1); refine hKp.out _ _ ?_; clear hKp Kp; (try simp only [Act.put, aP, aZ, aS]); refine pl_take (v := ?_) rfl ?_ ?_; rotate_left; (· (go_simp; first | done | with_reducible rfl | rfl | omega | assumption | (simp; omega))); (try simp only [Act.put, aP, aZ, aS]); refine pl_done ?_; refine hK0.out _ _ ?_; (try clear hK0 K0); refine wk_seq (fun K1 hK1 => ?_); refine wk_reg ?_; (iterate 2 (refine pl_take (v := ?_) rfl ?_ ?_; rotate_left; (· (go_simp; first | done | with_reducible rfl | rfl | omega | assumption | (simp; omega))); (try simp only [Act.put, aP, aZ, aS]))); refine pl_done ?_; refine hK1.out _ _ ?_; (try clear hK1 K1); refine wp_ret ?_
  go_ret
  exact ⟨b1, rfl, (by assumption : Sat w0 _ _).pick (by (repeat (first | exact Pick.nil _ | exact Pick.tail _ | exact Out.here _ | apply Out.there | apply Pick.cons | apply Pick.drop)))⟩

/-- What a List returns. -/
theorem list_spec {w0 w : World} {L : List HP} {p : Nat} {D : VD} (hok : D.Ok) (hs : Sat w0 w (DK p D :: L)) :
    Calls Try.prog 16 #[.pointer (some ⟨p, 0, none⟩)] w (fun e w' => ∃ A c, e = .returned (.slice A D.list.length c) ∧ Sat w0 w' (own 9 1 A c D.list.length (N8 D.list) :: DK p D :: L)) := by
  obtain ⟨bn, bs, X, cx, cs, rs, h1, h2, h3, hs1⟩ := DK.opened hs
  clear hs
  have hmay := fun (w : World) (M : List HP) (hs : Sat w0 w M) (hc : Cl w0 M ⟨p, 3, none⟩ (.map (some bn))) => may_no hs hc
  have hback := hidI (fun (w : World) (L : List HP) hs => DK.made (w := w) (w0 := w0) (L := L) (p := p) (bn := bn) (bs := bs) (X := X) (cx := cx) h1 h2 h3 hs)
  have hso := fun (w : World) (L : List HP) (bk : Nat) (hs : Sat w0 w (blk bk (.cells #[.map (some bn)] 52 (0, 0)) :: mp sV okS bn (dirV (adr rs) D.now) :: L)) => sortedKeysS_spec (by have := hok.nowlen; simp only [dirV, List.length_map]; omega) hs
  rw [dirV_keys] at hso
  have e1 : (dirV (adr rs) D.now).length = D.list.length := by unfold VD.list; rw [(nmSort_perm _).length_eq]; simp [dirV]
  rw [e1] at hso
  have e2 : nmSort (D.now.map (·.1)) = D.list := rfl
  rw [e2] at hso
  obtain ⟨R, hR⟩ : ∃ R, D.list = R := ⟨_, rfl⟩
  rw [hR] at hso ⊢
  obtain ⟨m, hm⟩ : ∃ m, R.length = m := ⟨_, rfl⟩
  rw [hm] at hso ⊢
  clear h1 h2 h3 e1 e2 hR hm
  go_enter Try.func16, Try.ntmps16
  refine wk_seq (fun K0 hK0 => ?_); refine wk_reg ?_; refine pl_take (v := ?_) rfl ?_ ?_; rotate_left; (· (go_simp; first | done | with_reducible rfl | rfl | omega | assumption | (simp; omega))); (try simp only [Act.put, aP, aZ, aS]); refine pl_done ?_; refine hK0.out _ _ ?_; (try clear hK0 K0); refine wk_seq (fun K1 hK1 => ?_); refine wk_seq (fun K2 hK2 => ?_); refine wk_reg ?_; refine pl_take (v := ?_) rfl ?_ ?_; rotate_left; (· (go_simp; first | done | with_reducible rfl | rfl | omega | assumption | (simp; omega))); (try simp only [Act.put, aP, aZ, aS]); refine pl_eff rfl (fun Kp hKp => ?_); go_simp; (refine (hmay _ _ (by assumption) (by (repeat (first | with_reducible assumption | ((with_reducible apply Cl.own); exact rfl) | ((with_reducible apply Cl.blkL); exact rfl) | with_reducible apply Cl.cons)))).mono ?_; rintro e4 w4 ⟨rfl, hs4⟩); (try go_wp2_with fail); refine hKp.out _ _ ?_; clear hKp Kp; (try simp only [Act.put, aP, aZ, aS]); refine pl_take (v := .bool false) rfl ?_ ?_; (· (go_simp; first | done | with_reducible rfl | rfl | omega | assumption | (simp; omega))); (try simp only [Act.put, aP, aZ, aS]); refine pl_done ?_; refine hK2.out _ _ ?_; (try clear hK2 K2); refine wp_cond_false rfl ?_; refine wp_skip ?_; refine hK1.out _ _ ?_; (try clear hK1 K1); refine wk_seq (fun K4 hK4 => ?_); refine wk_reg ?_; (iterate 4 (refine pl_take (v := ?_) rfl ?_ ?_; rotate_left; (· (first | ((with_reducible apply yl_load); assumption; rfl; (repeat (first | with_reducible assumption | ((with_reducible apply Cl.own); exact rfl) | ((with_reducible apply Cl.blkL); exact rfl) | with_reducible apply Cl.cons)); rfl) | (go_simp; first | done | with_reducible rfl | rfl | omega | assumption | (simp; omega)))); (try simp only [Act.put, aP, aZ, aS]))); refine pl_eff rfl (fun Kp hKp => ?_); go_simp; (refine (keysCS_spec (by assumption)).mono ?_; rintro e10 w10 ⟨bk, rfl, hs10⟩); (try go_wp2_with fail); refine hKp.out _ _ ?_; clear hKp Kp; (try simp only [Act.put, aP, aZ, aS]); refine pl_eff rfl (fun Kp hKp => ?_); go_simp; (refine (hso _ _ bk ((by assumption : Sat w0 _ (blk _ _ :: _)).pick (.cons (by (repeat (first | with_reducible exact Out.here _ | apply Out.there))) (.cons (by (repeat (first | with_reducible exact Out.here _ | apply Out.there))) (.tail _))))).mono ?_; rintro e11 w11 ⟨A11, c11, rfl, hs11⟩); (try go_wp2_with fail); refine hKp.out _ _ ?_; clear hKp Kp; (try simp only [Act.put, aP, aZ, aS]); refine pl_take (v := ?_) rfl ?_ ?_; rotate_left; (· (go_simp; first | done | with_reducible rfl | rfl | omega | assumption | (simp; omega))); (try simp only [Act.put, aP, aZ, aS]); refine pl_done ?_; refine hK4.out _ _ ?_; (try clear hK4 K4); refine wp_ret ?_
  go_ret
  exact ⟨A11, c11, rfl, (hback.out _ (own _ 1 _ _ _ _ :: L) ((by assumption : Sat w0 _ (own _ 1 A11 c11 _ _ :: _)).pick (by (repeat (first | exact Pick.nil _ | exact Pick.tail _ | exact Out.here _ | apply Out.there | apply Pick.cons | apply Pick.drop))))).swap⟩
end Go.Proofs.Ytiofgdgmlnhekaa
