/-
  The law's 'knows', and the walk of WirePuts.
-/
import Derived.Test.YtaenimnjaekmmaaWire3
namespace Go.Proofs.Ytaenimnjaekmmaa
open Go Go.RowKit Sl

theorem num_300 : num 300 = [2, 44, 1] := by simp [num, le_pos, le_zero]
theorem pn_300 : putNumber 300 = ([2, 44, 1], 0) := by simp [putNumber, num_300]
theorem ps_12 : putServers [1, 2] = ([1, 2, 1, 1, 1, 2], 0) := by simp [putServers, okServers, rise, srvBytes, num, le_pos, le_zero]

set_option maxHeartbeats 1000000 in
theorem knows_spec {w0 w : World} {L : List HP} (hs : Sat w0 w L) : Calls Try.prog 18 #[] w (RetB w0 L true) := by
  have k1 := putNumber_spec 300 hs
  rw [pn_300] at k1
  go_enter Try.func18, Try.ntmps18
  go_wp2_with (first | (go_at_call 11; refine k1.mono ?_; clear k1; rintro e w1 ⟨A1, c1, rfl, hs1⟩) | ((with_reducible apply wl_buildSlice); assumption; rfl; (go_simp; rfl); (simp [Value.cells]); omega; intro b w1 hs1) | fail)
  have k2 := putServers_spec (w0 := w0) [1, 2] 2 rfl (c := 2) (by omega) hs1 Rd.own
  rw [ps_12] at k2
  go_wp2_with (first | ((with_reducible apply wl_unguard); rfl) | (go_at_call 19; refine k2.mono ?_; clear k2; rintro e w2 ⟨A2, c2, rfl, hs2⟩) | (go_at_call 15; refine (errnum_spec _).mono ?_; rintro e w' ⟨rfl, rfl⟩) | ((with_reducible apply wl_b2s); assumption; rfl; (repeat (first | assumption | exact Rd.own | exact Rd.nil | apply Rd.cons)); first | rfl | (simp [B8_app])) | fail)
  go_ret
  exact ⟨rfl, hs2.pick (by (repeat (first | exact Pick.nil _ | exact Pick.tail _ | exact Out.here _ | apply Out.there | apply Pick.cons | apply Pick.drop)))⟩

theorem RdBB.cons {w0 : World} {p : HP} {L : List HP} {A : Option Addr} {n : Nat} {ls : List (List UInt8)} (h : RdBB w0 L A n ls) : RdBB w0 (p :: L) A n ls := by
  obtain ⟨vs, h1, h2, h3, h4⟩ := h
  exact ⟨vs, h1.cons, h2, h3, fun i l hl => let ⟨B, c, h5, h6⟩ := h4 i l hl; ⟨B, c, h5, h6.cons⟩⟩

theorem Hid.mk' {p : Prop} (h : p) : Hid p := h
/-- The first bytes of what was lent. -/
theorem Rd.lent {w0 : World} {L : List HP} {g c : Nat} (l : List UInt8) : Rd w0 (own 5 1 (some ⟨g, 0, none⟩) c (l.length + 2) (B8 (l ++ [201, 202])) :: L) (some ⟨g, 0, none⟩) l.length 1 (B8 l) := by
  have := Rd.own_take (w0 := w0) (L := L) (E := 5) (sz := 1) (A := some ⟨g, 0, none⟩) (c := c) (n := l.length + 2) (xs := B8 (l ++ [201, 202])) l.length (by omega)
  rw [Nat.mul_one] at this
  rwa [show (B8 (l ++ [201, 202])).take l.length = B8 l from by rw [B8_app, List.take_left' (B8_length l)]] at this

set_option maxHeartbeats 2000000 in
theorem wirePuts_walk {w0 w : World} {L : List HP} {A B : Option Addr} {c n d : Nat} (x : Int) (l : List UInt8) (ls : List (List UInt8)) (hl : l.length ≤ 1048576) (hn : n ≤ 1048576) (hls : ls.flatten.length ≤ 1048576)
    (hs : Sat w0 w L) (hR : Rd w0 L A l.length 1 (B8 l)) (hBB : RdBB w0 L B n ls) :
    Calls Try.prog 3 #[.int .i64 x, .slice A l.length c, .slice B n d] w (RetB w0 L true) := by
  obtain ⟨T, hT⟩ : ∃ T, T = ls.flatten.length := ⟨_, rfl⟩
  rw [← hT] at hls
  have Hr : Hid (T = ls.flatten.length) := hT
  clear hT
  rcases hp : putNumber x with ⟨p, r⟩
  rcases hq : putBytes l with ⟨q, t⟩
  have k1 := fun (w : World) (L : List HP) (h : Sat w0 w L) => putNumber_spec (w0 := w0) x h
  have k2 := fun (w : World) (L : List HP) (h : Sat w0 w L) => refPutNumber_spec (w0 := w0) x h
  have k3 := fun (w : World) (L : List HP) (A : Option Addr) (c : Nat) (h : Sat w0 w L) (h2 : Rd w0 L A l.length 1 (B8 l)) => putBytes_spec (w0 := w0) (c := c) l (by omega) h h2
  have k4 := fun (w : World) (L : List HP) (A : Option Addr) (c : Nat) (h : Sat w0 w L) (h2 : Rd w0 L A l.length 1 (B8 l)) => refPutBytes_spec (w0 := w0) (c := c) l (by omega) h h2
  simp only [hp, hq] at k1 k2 k3 k4
  have K1 := Hid.mk' k1; have K2 := Hid.mk' k2; have K3 := Hid.mk' k3; have K4 := Hid.mk' k4
  clear k1 k2 k3 k4 hp hq
  go_enter Try.func3, Try.ntmps3
  go_wp2_with fail
  refine (lent_spec l (by omega) hs hR).mono ?_
  rintro e w1 ⟨g, cx, rfl, hs1⟩
  go_wp2_with fail
  refine (K1.out _ _ hs1).mono ?_
  rintro e w2 ⟨A2, c2, rfl, hs2⟩
  go_wp2_with fail
  refine (K2.out _ _ hs2).mono ?_
  rintro e w3 ⟨A3, c3, rfl, hs3⟩
  go_wp2_with fail
  refine (K3.out _ _ _ _ hs3 (Rd.lent l).cons.cons).mono ?_
  rintro e w4 ⟨A4, c4, rfl, hs4⟩
  go_wp2_with fail
  refine (K4.out _ _ _ _ hs4 hR.cons.cons.cons.cons).mono ?_
  rintro e w5 ⟨A5, c5, rfl, hs5⟩
  simp only at hs2 hs3 hs4 hs5
  clear hs1 hs2 hs3 hs4 K1 K2 K3 K4
  obtain ⟨LC, hLC⟩ : ∃ LC, LC = (own 5 1 A5 c5 q.length (B8 q) :: own 5 1 A4 c4 q.length (B8 q) :: own 5 1 A3 c3 p.length (B8 p) :: own 5 1 A2 c2 p.length (B8 p) :: own 5 1 (some ⟨g, 0, none⟩) cx (l.length + 2) (B8 (l ++ [201, 202])) :: L) := ⟨_, rfl⟩
  rw [← hLC] at hs5
  have hBB' : RdBB w0 LC B n ls := by rw [hLC]; exact hBB.cons.cons.cons.cons.cons
  have hR' : Rd w0 LC A l.length 1 (B8 l) := by rw [hLC]; exact hR.cons.cons.cons.cons.cons
  have r2 : Rd w0 LC A2 p.length 1 (B8 p) := by rw [hLC]; exact Rd.own.cons.cons.cons
  have r3 : Rd w0 LC A3 p.length 1 (B8 p) := by rw [hLC]; exact Rd.own.cons.cons
  have r4 : Rd w0 LC A4 q.length 1 (B8 q) := by rw [hLC]; exact Rd.own.cons
  have r5 : Rd w0 LC A5 q.length 1 (B8 q) := by rw [hLC]; exact Rd.own
  have hLo : Hid (∃ M, Out (own 5 1 (some ⟨g, 0, none⟩) cx (l.length + 2) (B8 (l ++ [201, 202]))) LC M) := by rw [hLC]; exact ⟨_, by (repeat (first | exact Out.here _ | apply Out.there))⟩
  have hLt : Hid (∀ w, Sat w0 w LC → Sat w0 w L) := fun w h => by rw [hLC] at h; exact h.tail.tail.tail.tail.tail
  clear hLC hR hs
  have hBB1 := hBB'
  obtain ⟨vs, hv, hvl, hnl, hel⟩ := hBB1
  have hnl1 : ls.length ≤ n := by omega
  have hnl2 : n ≤ ls.length := by omega
  clear hnl hvl hBB
  go_wp2_with fail
  go_loopw [16, 17] (fun v i wr => ∃ (j : Nat) (A6 : Option Addr) (c6 : Nat), j ≤ n ∧ i = .int .i64 j ∧ v = .slice A6 (tot ls j) c6 ∧ Sat w0 wr (own 5 1 A6 c6 (tot ls j) (B8 (cat ls j)) :: LC)) (fun _ i _ => n - (intOf i).toNat)
  case atStart => exact ⟨0, none, 0, Nat.zero_le _, rfl, by simp [tot], by simpa [tot, cat, B8] using hs5.own_nil _ _⟩
  case round =>
    obtain ⟨j, A6, c6, hj, rfl, rfl, hs6⟩ := hrel
    clear hs5
    by_cases hlt : j < n
    · obtain ⟨b, off, rfl⟩ := hv.some_of hs6.tail (by omega)
      obtain ⟨m, hl1⟩ : ∃ m, ls[j]? = some m := ⟨ls[j]'(by omega), List.getElem?_eq_getElem (by omega)⟩
      obtain ⟨B', d', hb1, hb2⟩ := hel j m hl1
      have hc := hv.elt hb1
      have hsz := tot_le ls (j + 1)
      have hst := tot_succ ls j m hl1
      have hlen : tot ls j + m.length ≤ 1048576 := by rw [hst, ← Hr.out] at hsz; omega
      have Hst : Hid (tot ls (j + 1) = tot ls j + m.length) := hst
      have Hca : Hid (cat ls (j + 1) = cat ls j ++ m) := cat_succ ls j m hl1
      clear hst hl1 hb1 hel hsz
      go_wp2_with (first | ((with_reducible apply wl_unguard); rfl) | ((with_reducible apply wl_buildSlice); assumption; rfl; (go_simp; rfl); (simp [Value.cells]); omega; intro b w1 hs1) | ((with_reducible apply wl_append); go_must (assumption; rfl; rfl; (repeat (first | exact Out.here _ | apply Out.there)); (repeat (first | assumption | exact Rd.own | exact Rd.nil | apply Rd.cons)); (first | exact B8_one _ | exact I8_one _ | (simp [Value.oneCell'])); (first | omega | (simp only [maxLen]; omega)); omega; intro A1 c1 w1 hs1 hc1; (try ((refine hs1.own_elim ?_ ?_); omega; rintro g1 rfl)); try simp only [Nat.zero_add, List.nil_append] at hs1 hc1)) | ((with_reducible apply wl_store_own); assumption; rfl; (go_simp; rfl); (repeat (first | exact Out.here _ | apply Out.there)); rfl; rfl; omega; intro w1 hs1) | ((with_reducible apply wl_store1); assumption; rfl; (go_simp; rfl); (repeat (first | exact Out.here _ | apply Out.there)); rfl; rfl; simp; intro w1 hs1; (try simp only [List.setIfInBounds_toArray] at hs1); (try simp only [List.set_cons_succ] at hs1); (try simp only [List.set_cons_zero] at hs1)) | ((with_reducible apply wl_load); assumption; rfl; (repeat (first | assumption | exact Cl.blk rfl | apply Cl.cons))) | ((with_reducible apply wl_b2s); assumption; rfl; (repeat (first | assumption | exact Rd.own | exact Rd.nil | apply Rd.cons)); first | rfl | (simp [B8_app])))
      go_roundw
      case rel => exact ⟨j + 1, _, _, by omega, by go_num, by rw [Hst.out], hs1.pick (by rw [Hst.out, Hca.out, B8_app]; (repeat (first | exact Pick.nil _ | exact Pick.tail _ | exact Out.here _ | apply Out.there | apply Pick.cons | apply Pick.drop)))⟩
      case measure => simp [intOf]; omega
    · obtain rfl : j = n := by omega
      have Hfin : Hid (cat ls j = ls.flatten) := cat_all ls j hnl1
      have Htot : Hid (tot ls j = ls.flatten.length) := tot_all ls j hnl1
      clear hel hv
      go_wp2_with fail
      obtain ⟨z, hz⟩ : ∃ z, z = cat ls j := ⟨_, rfl⟩
      have hzl : tot ls j = z.length := by rw [hz]; rfl
      rw [← hz] at hs6
      have Hz : Hid (ls.flatten = z) := by rw [hz]; exact Hfin.out.symm
      have hzb : z.length ≤ 1048576 := by rw [← hzl, Htot.out, ← Hr.out]; exact hls
      clear hz Hfin
      rw [hzl] at hs6 ⊢
      clear hzl Htot Hr hls
      obtain ⟨LD, hLD⟩ : ∃ LD, LD = (own 5 1 A6 c6 z.length (B8 z) :: LC) := ⟨_, rfl⟩
      rw [← hLD] at hs6
      have v2 := fun (w' : World) (h : Sat w0 w' LD) => conv_b2s (P := Try.prog) (S := 22) (D := 9) (c := c2) (by rw [hLD]; exact r2.cons) h
      have v3 := fun (w' : World) (h : Sat w0 w' LD) => conv_b2s (P := Try.prog) (S := 22) (D := 9) (c := c3) (by rw [hLD]; exact r3.cons) h
      have v4 := fun (w' : World) (h : Sat w0 w' LD) => conv_b2s (P := Try.prog) (S := 22) (D := 9) (c := c4) (by rw [hLD]; exact r4.cons) h
      have v5 := fun (w' : World) (h : Sat w0 w' LD) => conv_b2s (P := Try.prog) (S := 22) (D := 9) (c := c5) (by rw [hLD]; exact r5.cons) h
      have v6 := fun (w' : World) (h : Sat w0 w' LD) => conv_b2s (P := Try.prog) (S := 22) (D := 9) (c := c6) (by rw [hLD]; exact Rd.own) h
      have hBD : RdBB w0 LD B j ls := by rw [hLD]; exact hBB'.cons
      have hRD : Rd w0 LD A l.length 1 (B8 l) := by rw [hLD]; exact hR'.cons
      have hLD' : Hid (∃ M, Out (own 5 1 (some ⟨g, 0, none⟩) cx (l.length + 2) (B8 (l ++ [201, 202]))) LD M) := by rw [hLD]; obtain ⟨M, hM⟩ := hLo.out; exact ⟨_, Out.there _ _ _ hM⟩
      have hLE : Hid (∀ w, Sat w0 w LD → Sat w0 w L) := fun w h => by rw [hLD] at h; exact hLt.out _ h.tail
      clear hLo hLt hLD r2 r3 r4 r5 hR' hBB'
      go_region_held (fun w' => Sat w0 w' LD) (first | assumption | (apply Sat.drew; assumption) | (apply Sat.tail; assumption)) (first | (go_at_call 15; refine (errnum_spec _).mono ?_; rintro e w' ⟨rfl, rfl⟩) | (go_at_call 16; refine (join_spec ls z Hz.out (by omega) (by omega) (by assumption) hBD).mono ?_; rintro e w9 ⟨A9, c9, rfl, hs9⟩; have hv9 := conv_b2s (P := Try.prog) (S := 22) (D := 9) (c := c9) Rd.own hs9) | (go_at_call 17; refine (stays_spec l (by omega) (by assumption) hLD'.out.choose_spec hRD).mono ?_; rintro e w9 ⟨rfl, hs9⟩) | (go_at_call 18; refine (knows_spec (w0 := w0) (L := LD) (by assumption)).mono ?_; rintro e w9 ⟨rfl, hs9⟩))
      all_goals go_wp2
      all_goals go_ret
      all_goals exact ⟨rfl, hLE.out _ (by first | assumption | (apply Sat.drew; assumption))⟩
#print axioms wirePuts_walk
end Go.Proofs.Ytaenimnjaekmmaa
