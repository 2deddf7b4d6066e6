/-
  WireBack: the walk, up to the reader.
-/
import Derived.Test.YtaenimnjaekmmaaBack1
import Derived.Test.YtaenimnjaekmmaaReg
namespace Go.Proofs.Ytaenimnjaekmmaa
open Go Go.RowKit Sl Go.Shelf

def S8 (l : List (List UInt8)) : List Value := l.map fun t => Value.string ⟨t.toArray⟩

/-- What the first loop has built. -/
def BkInv (w0 : World) (L : List HP) (xs : List Item) (b wv tx : Value) (w : World) : Prop := ∃ Ab cb Aw cw At ct, b = .slice Ab (enc xs).length cb ∧ wv = .slice Aw xs.length cw ∧ tx = .slice At xs.length ct ∧
  Sat w0 w (own 5 1 Ab cb (enc xs).length (B8 (enc xs)) :: own 3 1 Aw cw xs.length (I8 (xs.map (·.1))) :: own 9 1 At ct xs.length (S8 (xs.map (·.2))) :: L)

theorem BkInv.mk {w0 w : World} {L L' : List HP} {xs : List Item} {Ab Aw At : Option Addr} {cb cw ct nb nw nt : Nat} {vb vw vt : List Value} (hs : Sat w0 w L')
    (hp : Pick L' (own 5 1 Ab cb nb vb :: own 3 1 Aw cw nw vw :: own 9 1 At ct nt vt :: L))
    (e : nb = (enc xs).length ∧ vb = B8 (enc xs) ∧ nw = xs.length ∧ vw = I8 (xs.map (·.1)) ∧ nt = xs.length ∧ vt = S8 (xs.map (·.2))) :
    BkInv w0 L xs (.slice Ab nb cb) (.slice Aw nw cw) (.slice At nt ct) w := by
  obtain ⟨rfl, rfl, rfl, rfl, e5, rfl⟩ := e
  subst e5
  exact ⟨_, _, _, _, _, _, rfl, rfl, rfl, hs.pick hp⟩

theorem BkInv.start {w0 w : World} {L : List HP} (hs : Sat w0 w L) : BkInv w0 L [] (.slice none 0 0) (.slice none 0 0) (.slice none 0 0) w :=
  ⟨none, 0, none, 0, none, 0, rfl, rfl, rfl, Sat.own_nil (Sat.own_nil (Sat.own_nil hs _ _) _ _) _ _⟩

theorem put_case (l : List Int) (k n : Nat) (hn : n = l.length) : (n ≤ k ∧ (l[k]?.map numItem).getD [] = []) ∨ (∃ x, k < n ∧ l[k]? = some x ∧ putNumber x = ([], 11) ∧ (l[k]?.map numItem).getD [] = []) ∨
    (∃ x, k < n ∧ l[k]? = some x ∧ putNumber x = (num x.toNat, 0) ∧ (l[k]?.map numItem).getD [] = [(x, [])] ∧ 0 ≤ x ∧ x < 281474976710656) := by
  by_cases h : k < n
  · have hx : l[k]? = some (l[k]'(by omega)) := List.getElem?_eq_getElem (by omega)
    by_cases h2 : l[k] < 0 ∨ 281474976710656 ≤ l[k]
    · exact .inr (.inl ⟨_, h, hx, by simp only [putNumber]; rw [if_pos h2], by rw [hx]; simp only [Option.map_some, Option.getD_some, numItem]; rw [if_pos h2]⟩)
    · exact .inr (.inr ⟨_, h, hx, by simp only [putNumber]; rw [if_neg h2], by rw [hx]; simp only [Option.map_some, Option.getD_some, numItem]; rw [if_neg h2], by omega, by omega⟩)
  · exact .inl ⟨by omega, by rw [List.getElem?_eq_none (by omega)]; rfl⟩

theorem text_case (l : List (List UInt8)) (k n : Nat) (hn : n = l.length) : (n ≤ k ∧ (l[k]?.map bytesItem).getD [] = []) ∨ (∃ x, k < n ∧ l[k]? = some x ∧ 1048576 < x.length) ∨
    (∃ x, k < n ∧ l[k]? = some x ∧ putBytes x = (num x.length ++ x, 0) ∧ (l[k]?.map bytesItem).getD [] = [(-1, x)] ∧ x.length ≤ 1048576) := by
  by_cases h : k < n
  · have hx : l[k]? = some (l[k]'(by omega)) := List.getElem?_eq_getElem (by omega)
    by_cases h2 : 1048576 < (l[k]'(by omega)).length
    · exact .inr (.inl ⟨_, h, hx, h2⟩)
    · exact .inr (.inr ⟨_, h, hx, by simp only [putBytes]; rw [if_neg h2], by rw [hx]; simp only [Option.map_some, Option.getD_some, bytesItem]; rw [if_neg h2], by omega⟩)
  · exact .inl ⟨by omega, by rw [List.getElem?_eq_none (by omega)]; rfl⟩

theorem enc_num (x : Int) (h : 0 ≤ x) : enc [(x, [])] = num x.toNat := by simp [enc, encItem]; omega
theorem enc_text (t : List UInt8) : enc [(-1, t)] = num t.length ++ t := by simp [enc, encItem]
theorem enc_drop_len (xs : List Item) (j : Nat) : (enc (xs.drop j)).length ≤ (enc xs).length := by
  have : enc xs = enc (xs.take j) ++ enc (xs.drop j) := by rw [← enc_app, List.take_append_drop]
  rw [this, List.length_append]; omega
theorem enc_two (x : Int) (t : List UInt8) (h : 0 ≤ x) : enc [(x, []), (-1, t)] = num x.toNat ++ (num t.length ++ t) := by
  have := enc_app [(x, [])] [(-1, t)]
  rw [enc_num x h, enc_text] at this
  exact this

set_option maxHeartbeats 4000000 in
set_option maxRecDepth 8000 in
theorem wireBack_walk {w0 w : World} {L : List HP} {A B : Option Addr} {c n1 n2 d : Nat} (l : List Int) (m : List (List UInt8)) (h1 : n1 = l.length) (h2 : n2 = m.length) (hn1 : n1 ≤ 1048576) (hn2 : n2 ≤ 1048576) (hm : m.flatten.length ≤ 1048576)
    (hs : Sat w0 w L) (hR : Rd w0 L A n1 1 (I8 l)) (hRB : RdBB w0 L B n2 m) :
    Calls Try.prog 7 #[.slice A n1 c, .slice B n2 d] w (RetB w0 L true) := by
  obtain ⟨vs, hv, hvl, hq, hel⟩ := hRB
  clear hvl hq
  have Hh1 : Hid (n1 = l.length) := h1
  have Hh2 : Hid (n2 = m.length) := h2
  clear h1 h2
  go_enter Try.func7, Try.ntmps7
  go_wp2_with fail
  go_loopw [5, 6, 7, 8] (fun b wv tx i wr => ∃ k : Nat, i = .int .i64 k ∧ (k ≤ n1 ∨ k ≤ n2) ∧ BkInv w0 L (items l m k) b wv tx wr) (fun _ _ _ i _ => n1 + n2 - (intOf i).toNat)
  case atStart => exact ⟨0, rfl, by omega, BkInv.start hs⟩
  case round =>
    obtain ⟨k, rfl, hk, Ab, cb, Aw, cw, At, ct, rfl, rfl, rfl, hs2⟩ := hrel
    clear hs
    by_cases hkn : k < n1 ∨ k < n2
    · have hel1 := enc_len l m k
      have hitl := items_len l m k
      have htl : tot m k ≤ 1048576 := by have := tot_le m k; omega
      have htl1 : tot m (k + 1) ≤ 1048576 := by have := tot_le m (k + 1); omega
      have hit : items l m (k + 1) = items l m k ++ (l[k]?.map numItem).getD [] ++ (m[k]?.map bytesItem).getD [] := rfl
      have hc1 := put_case l k n1 Hh1.out
      have hc2 := text_case m k n2 Hh2.out
      obtain ⟨xs, hxs⟩ : ∃ xs, xs = items l m k := ⟨_, rfl⟩
      rw [← hxs] at hs2 hel1 hitl hit ⊢
      obtain ⟨eb, heb⟩ : ∃ eb, eb = enc xs := ⟨_, rfl⟩
      obtain ⟨vw, hvw⟩ : ∃ vw, vw = I8 (xs.map (·.1)) := ⟨_, rfl⟩
      obtain ⟨vt, hvt⟩ : ∃ vt, vt = S8 (xs.map (·.2)) := ⟨_, rfl⟩
      obtain ⟨nx, hnx⟩ : ∃ nx, nx = xs.length := ⟨_, rfl⟩
      rw [← heb, ← hvw, ← hvt, ← hnx] at hs2
      rw [← heb] at hel1 ⊢
      rw [← hnx] at hitl ⊢
      have Hxs : Hid (eb = enc xs ∧ vw = I8 (xs.map (·.1)) ∧ vt = S8 (xs.map (·.2)) ∧ nx = xs.length) := ⟨heb, hvw, hvt, hnx⟩
      have hbl : eb.length ≤ 16777216 := by omega
      have hxl : nx ≤ 2097152 := by omega
      clear heb hvw hvt hnx hxs hel1 hitl htl hm
      rcases hc1 with ⟨g1, g4⟩ | ⟨x, g1, g2, g3, g4⟩ | ⟨x, g1, g2, g3, g4, g5, g6⟩
      · rcases hc2 with ⟨f1, f4⟩ | ⟨t, f1, f2, f3⟩ | ⟨t, f1, f2, f3, f4, f5⟩
        · omega
        · exfalso; rw [tot_succ m k t f2] at htl1; omega
        · clear htl1
          rw [g4, f4] at hit
          try simp only [List.append_nil] at hit
          have Hit := Hid.mk' hit
          clear hit g4 f4
          obtain ⟨Bt, dt, e1, hRt⟩ := hel k t f2
          obtain ⟨y, hy⟩ : ∃ y, y = num t.length ++ t := ⟨_, rfl⟩
          rw [← hy] at f3
          have hyl : y.length ≤ 1048583 := by rw [hy, List.length_append]; have := num_len6 t.length (by omega); omega
          have Hy : Hid (y = num t.length ++ t) := hy
          have hT : ∀ {w : World} {L : List HP}, Sat w0 w L → Rd w0 L Bt t.length 1 (B8 t) → Calls Try.prog 13 #[.slice Bt t.length dt] w (RetT w0 L (y, 0)) := fun hs hr => by
            have := putBytes_spec t (c := dt) (by omega) hs hr
            rwa [f3] at this
          obtain ⟨gb, ob, rfl⟩ := hv.some_of hs2.tail.tail.tail (by omega)
          have hct := hv.elt e1
          clear f2 f3 e1 hy
          go_wp2_with (first | (go_at_call 13; refine (hT (by assumption) (by (repeat (first | assumption | exact Rd.own | exact Rd.nil | apply Rd.cons)))).mono ?_; rintro e' w4 ⟨A4, c4, rfl, hs4⟩; simp only at hs4) | (go_at_call 15; refine (errnum_spec _).mono ?_; rintro e' w' ⟨rfl, rfl⟩) | (first | ((with_reducible apply wl_unguard); rfl) | ((with_reducible apply wl_buildSlice); assumption; rfl; (go_simp; rfl); (simp [Value.cells]); omega; intro b w1 hs1) | ((with_reducible apply wl_append); go_must (assumption; rfl; rfl; (repeat (first | exact Out.here _ | apply Out.there)); (repeat (first | assumption | exact Rd.own | exact Rd.nil | apply Rd.cons)); (first | exact B8_one _ | exact I8_one _ | (simp [Value.oneCell'])); (first | omega | (simp only [maxLen]; omega)); omega; intro A1 c1 w1 hs1 hc1; (try ((refine hs1.own_elim ?_ ?_); omega; rintro g1 rfl)); try simp only [Nat.zero_add, List.nil_append] at hs1 hc1)) | ((with_reducible apply wl_store_own); assumption; rfl; (go_simp; rfl); (repeat (first | exact Out.here _ | apply Out.there)); rfl; rfl; omega; intro w1 hs1) | ((with_reducible apply wl_store1); assumption; rfl; (go_simp; rfl); (repeat (first | exact Out.here _ | apply Out.there)); rfl; rfl; simp; intro w1 hs1; (try simp only [List.setIfInBounds_toArray] at hs1); (try simp only [List.set_cons_succ] at hs1); (try simp only [List.set_cons_zero] at hs1)) | ((with_reducible apply wl_load); assumption; rfl; (repeat (first | assumption | exact Cl.blk rfl | apply Cl.cons))) | ((with_reducible apply wl_b2s); assumption; rfl; (repeat (first | assumption | exact Rd.own | exact Rd.nil | apply Rd.cons)); first | rfl | (simp [B8_app]))) | fail)
          go_roundw
          case rel => exact ⟨k + 1, by go_num, by omega, BkInv.mk (by assumption) (by (repeat (first | exact Pick.nil _ | exact Pick.tail _ | exact Out.here _ | apply Out.there | apply Pick.cons | apply Pick.drop))) (by rw [Hit.out]; obtain ⟨rfl, rfl, rfl, rfl⟩ := Hxs.out; simp [enc_app, B8_app, I8, S8, enc_text, Hy.out])⟩
          case measure => simp [intOf]; omega
      · rcases hc2 with ⟨f1, f4⟩ | ⟨t, f1, f2, f3⟩ | ⟨t, f1, f2, f3, f4, f5⟩
        · clear htl1
          rw [g4, f4] at hit
          try simp only [List.append_nil] at hit
          have Hit := Hid.mk' hit
          clear hit g4 f4
          have hP : ∀ {w : World} {L : List HP}, Sat w0 w L → Calls Try.prog 11 #[.int .i64 x] w (RetT w0 L ([], 11)) := fun hs => by
            have := putNumber_spec x hs
            rwa [g3] at this
          obtain ⟨ga, oa, rfl⟩ := hR.some_of hs2.tail.tail.tail (by omega)
          have hcx := hR.elt (I8_at l k x g2)
          clear g2 g3
          go_wp2_with (first | (go_at_call 11; refine (hP (by assumption)).mono ?_; rintro e' w3 ⟨A3, c3, rfl, hs3⟩) | (go_at_call 15; refine (errnum_spec _).mono ?_; rintro e' w' ⟨rfl, rfl⟩) | (first | ((with_reducible apply wl_unguard); rfl) | ((with_reducible apply wl_buildSlice); assumption; rfl; (go_simp; rfl); (simp [Value.cells]); omega; intro b w1 hs1) | ((with_reducible apply wl_append); go_must (assumption; rfl; rfl; (repeat (first | exact Out.here _ | apply Out.there)); (repeat (first | assumption | exact Rd.own | exact Rd.nil | apply Rd.cons)); (first | exact B8_one _ | exact I8_one _ | (simp [Value.oneCell'])); (first | omega | (simp only [maxLen]; omega)); omega; intro A1 c1 w1 hs1 hc1; (try ((refine hs1.own_elim ?_ ?_); omega; rintro g1 rfl)); try simp only [Nat.zero_add, List.nil_append] at hs1 hc1)) | ((with_reducible apply wl_store_own); assumption; rfl; (go_simp; rfl); (repeat (first | exact Out.here _ | apply Out.there)); rfl; rfl; omega; intro w1 hs1) | ((with_reducible apply wl_store1); assumption; rfl; (go_simp; rfl); (repeat (first | exact Out.here _ | apply Out.there)); rfl; rfl; simp; intro w1 hs1; (try simp only [List.setIfInBounds_toArray] at hs1); (try simp only [List.set_cons_succ] at hs1); (try simp only [List.set_cons_zero] at hs1)) | ((with_reducible apply wl_load); assumption; rfl; (repeat (first | assumption | exact Cl.blk rfl | apply Cl.cons))) | ((with_reducible apply wl_b2s); assumption; rfl; (repeat (first | assumption | exact Rd.own | exact Rd.nil | apply Rd.cons)); first | rfl | (simp [B8_app]))) | fail)
          go_roundw
          case rel => exact ⟨k + 1, by go_num, by omega, BkInv.mk (by assumption) (by (repeat (first | exact Pick.nil _ | exact Pick.tail _ | exact Out.here _ | apply Out.there | apply Pick.cons | apply Pick.drop))) (by rw [Hit.out]; obtain ⟨rfl, rfl, rfl, rfl⟩ := Hxs.out; exact ⟨rfl, rfl, rfl, rfl, rfl, rfl⟩)⟩
          case measure => simp [intOf]; omega
        · exfalso; rw [tot_succ m k t f2] at htl1; omega
        · clear htl1
          rw [g4, f4] at hit
          try simp only [List.append_nil] at hit
          have Hit := Hid.mk' hit
          clear hit g4 f4
          have hP : ∀ {w : World} {L : List HP}, Sat w0 w L → Calls Try.prog 11 #[.int .i64 x] w (RetT w0 L ([], 11)) := fun hs => by
            have := putNumber_spec x hs
            rwa [g3] at this
          obtain ⟨ga, oa, rfl⟩ := hR.some_of hs2.tail.tail.tail (by omega)
          have hcx := hR.elt (I8_at l k x g2)
          clear g2 g3
          obtain ⟨Bt, dt, e1, hRt⟩ := hel k t f2
          obtain ⟨y, hy⟩ : ∃ y, y = num t.length ++ t := ⟨_, rfl⟩
          rw [← hy] at f3
          have hyl : y.length ≤ 1048583 := by rw [hy, List.length_append]; have := num_len6 t.length (by omega); omega
          have Hy : Hid (y = num t.length ++ t) := hy
          have hT : ∀ {w : World} {L : List HP}, Sat w0 w L → Rd w0 L Bt t.length 1 (B8 t) → Calls Try.prog 13 #[.slice Bt t.length dt] w (RetT w0 L (y, 0)) := fun hs hr => by
            have := putBytes_spec t (c := dt) (by omega) hs hr
            rwa [f3] at this
          obtain ⟨gb, ob, rfl⟩ := hv.some_of hs2.tail.tail.tail (by omega)
          have hct := hv.elt e1
          clear f2 f3 e1 hy
          go_wp2_with (first | (go_at_call 11; refine (hP (by assumption)).mono ?_; rintro e' w3 ⟨A3, c3, rfl, hs3⟩) | (go_at_call 13; refine (hT (by assumption) (by (repeat (first | assumption | exact Rd.own | exact Rd.nil | apply Rd.cons)))).mono ?_; rintro e' w4 ⟨A4, c4, rfl, hs4⟩; simp only at hs4) | (go_at_call 15; refine (errnum_spec _).mono ?_; rintro e' w' ⟨rfl, rfl⟩) | (first | ((with_reducible apply wl_unguard); rfl) | ((with_reducible apply wl_buildSlice); assumption; rfl; (go_simp; rfl); (simp [Value.cells]); omega; intro b w1 hs1) | ((with_reducible apply wl_append); go_must (assumption; rfl; rfl; (repeat (first | exact Out.here _ | apply Out.there)); (repeat (first | assumption | exact Rd.own | exact Rd.nil | apply Rd.cons)); (first | exact B8_one _ | exact I8_one _ | (simp [Value.oneCell'])); (first | omega | (simp only [maxLen]; omega)); omega; intro A1 c1 w1 hs1 hc1; (try ((refine hs1.own_elim ?_ ?_); omega; rintro g1 rfl)); try simp only [Nat.zero_add, List.nil_append] at hs1 hc1)) | ((with_reducible apply wl_store_own); assumption; rfl; (go_simp; rfl); (repeat (first | exact Out.here _ | apply Out.there)); rfl; rfl; omega; intro w1 hs1) | ((with_reducible apply wl_store1); assumption; rfl; (go_simp; rfl); (repeat (first | exact Out.here _ | apply Out.there)); rfl; rfl; simp; intro w1 hs1; (try simp only [List.setIfInBounds_toArray] at hs1); (try simp only [List.set_cons_succ] at hs1); (try simp only [List.set_cons_zero] at hs1)) | ((with_reducible apply wl_load); assumption; rfl; (repeat (first | assumption | exact Cl.blk rfl | apply Cl.cons))) | ((with_reducible apply wl_b2s); assumption; rfl; (repeat (first | assumption | exact Rd.own | exact Rd.nil | apply Rd.cons)); first | rfl | (simp [B8_app]))) | fail)
          go_roundw
          case rel => exact ⟨k + 1, by go_num, by omega, BkInv.mk (by assumption) (by (repeat (first | exact Pick.nil _ | exact Pick.tail _ | exact Out.here _ | apply Out.there | apply Pick.cons | apply Pick.drop))) (by rw [Hit.out]; obtain ⟨rfl, rfl, rfl, rfl⟩ := Hxs.out; simp [enc_app, B8_app, I8, S8, enc_text, Hy.out])⟩
          case measure => simp [intOf]; omega
      · rcases hc2 with ⟨f1, f4⟩ | ⟨t, f1, f2, f3⟩ | ⟨t, f1, f2, f3, f4, f5⟩
        · clear htl1
          rw [g4, f4] at hit
          try simp only [List.append_nil] at hit
          have Hit := Hid.mk' hit
          clear hit g4 f4
          obtain ⟨z, hz⟩ : ∃ z, z = num x.toNat := ⟨_, rfl⟩
          rw [← hz] at g3
          have hzl : z.length ≤ 7 := by rw [hz]; exact num_len6 _ (by omega)
          have Hz : Hid (z = num x.toNat) := hz
          have hP : ∀ {w : World} {L : List HP}, Sat w0 w L → Calls Try.prog 11 #[.int .i64 x] w (RetT w0 L (z, 0)) := fun hs => by
            have := putNumber_spec x hs
            rwa [g3] at this
          obtain ⟨ga, oa, rfl⟩ := hR.some_of hs2.tail.tail.tail (by omega)
          have hcx := hR.elt (I8_at l k x g2)
          clear g2 g3 hz
          go_wp2_with (first | (go_at_call 11; refine (hP (by assumption)).mono ?_; rintro e' w3 ⟨A3, c3, rfl, hs3⟩; simp only at hs3) | (go_at_call 15; refine (errnum_spec _).mono ?_; rintro e' w' ⟨rfl, rfl⟩) | (first | ((with_reducible apply wl_unguard); rfl) | ((with_reducible apply wl_buildSlice); assumption; rfl; (go_simp; rfl); (simp [Value.cells]); omega; intro b w1 hs1) | ((with_reducible apply wl_append); go_must (assumption; rfl; rfl; (repeat (first | exact Out.here _ | apply Out.there)); (repeat (first | assumption | exact Rd.own | exact Rd.nil | apply Rd.cons)); (first | exact B8_one _ | exact I8_one _ | (simp [Value.oneCell'])); (first | omega | (simp only [maxLen]; omega)); omega; intro A1 c1 w1 hs1 hc1; (try ((refine hs1.own_elim ?_ ?_); omega; rintro g1 rfl)); try simp only [Nat.zero_add, List.nil_append] at hs1 hc1)) | ((with_reducible apply wl_store_own); assumption; rfl; (go_simp; rfl); (repeat (first | exact Out.here _ | apply Out.there)); rfl; rfl; omega; intro w1 hs1) | ((with_reducible apply wl_store1); assumption; rfl; (go_simp; rfl); (repeat (first | exact Out.here _ | apply Out.there)); rfl; rfl; simp; intro w1 hs1; (try simp only [List.setIfInBounds_toArray] at hs1); (try simp only [List.set_cons_succ] at hs1); (try simp only [List.set_cons_zero] at hs1)) | ((with_reducible apply wl_load); assumption; rfl; (repeat (first | assumption | exact Cl.blk rfl | apply Cl.cons))) | ((with_reducible apply wl_b2s); assumption; rfl; (repeat (first | assumption | exact Rd.own | exact Rd.nil | apply Rd.cons)); first | rfl | (simp [B8_app]))) | fail)
          go_roundw
          case rel => exact ⟨k + 1, by go_num, by omega, BkInv.mk (by assumption) (by (repeat (first | exact Pick.nil _ | exact Pick.tail _ | exact Out.here _ | apply Out.there | apply Pick.cons | apply Pick.drop))) (by rw [Hit.out]; obtain ⟨rfl, rfl, rfl, rfl⟩ := Hxs.out; simp [enc_app, B8_app, I8, S8, enc_num x g5, Hz.out])⟩
          case measure => simp [intOf]; omega
        · exfalso; rw [tot_succ m k t f2] at htl1; omega
        · clear htl1
          rw [g4, f4] at hit
          try simp only [List.append_nil] at hit
          have Hit := Hid.mk' hit
          clear hit g4 f4
          obtain ⟨z, hz⟩ : ∃ z, z = num x.toNat := ⟨_, rfl⟩
          rw [← hz] at g3
          have hzl : z.length ≤ 7 := by rw [hz]; exact num_len6 _ (by omega)
          have Hz : Hid (z = num x.toNat) := hz
          have hP : ∀ {w : World} {L : List HP}, Sat w0 w L → Calls Try.prog 11 #[.int .i64 x] w (RetT w0 L (z, 0)) := fun hs => by
            have := putNumber_spec x hs
            rwa [g3] at this
          obtain ⟨ga, oa, rfl⟩ := hR.some_of hs2.tail.tail.tail (by omega)
          have hcx := hR.elt (I8_at l k x g2)
          clear g2 g3 hz
          obtain ⟨Bt, dt, e1, hRt⟩ := hel k t f2
          obtain ⟨y, hy⟩ : ∃ y, y = num t.length ++ t := ⟨_, rfl⟩
          rw [← hy] at f3
          have hyl : y.length ≤ 1048583 := by rw [hy, List.length_append]; have := num_len6 t.length (by omega); omega
          have Hy : Hid (y = num t.length ++ t) := hy
          have hT : ∀ {w : World} {L : List HP}, Sat w0 w L → Rd w0 L Bt t.length 1 (B8 t) → Calls Try.prog 13 #[.slice Bt t.length dt] w (RetT w0 L (y, 0)) := fun hs hr => by
            have := putBytes_spec t (c := dt) (by omega) hs hr
            rwa [f3] at this
          obtain ⟨gb, ob, rfl⟩ := hv.some_of hs2.tail.tail.tail (by omega)
          have hct := hv.elt e1
          clear f2 f3 e1 hy
          go_wp2_with (first | (go_at_call 11; refine (hP (by assumption)).mono ?_; rintro e' w3 ⟨A3, c3, rfl, hs3⟩; simp only at hs3) | (go_at_call 13; refine (hT (by assumption) (by (repeat (first | assumption | exact Rd.own | exact Rd.nil | apply Rd.cons)))).mono ?_; rintro e' w4 ⟨A4, c4, rfl, hs4⟩; simp only at hs4) | (go_at_call 15; refine (errnum_spec _).mono ?_; rintro e' w' ⟨rfl, rfl⟩) | (first | ((with_reducible apply wl_unguard); rfl) | ((with_reducible apply wl_buildSlice); assumption; rfl; (go_simp; rfl); (simp [Value.cells]); omega; intro b w1 hs1) | ((with_reducible apply wl_append); go_must (assumption; rfl; rfl; (repeat (first | exact Out.here _ | apply Out.there)); (repeat (first | assumption | exact Rd.own | exact Rd.nil | apply Rd.cons)); (first | exact B8_one _ | exact I8_one _ | (simp [Value.oneCell'])); (first | omega | (simp only [maxLen]; omega)); omega; intro A1 c1 w1 hs1 hc1; (try ((refine hs1.own_elim ?_ ?_); omega; rintro g1 rfl)); try simp only [Nat.zero_add, List.nil_append] at hs1 hc1)) | ((with_reducible apply wl_store_own); assumption; rfl; (go_simp; rfl); (repeat (first | exact Out.here _ | apply Out.there)); rfl; rfl; omega; intro w1 hs1) | ((with_reducible apply wl_store1); assumption; rfl; (go_simp; rfl); (repeat (first | exact Out.here _ | apply Out.there)); rfl; rfl; simp; intro w1 hs1; (try simp only [List.setIfInBounds_toArray] at hs1); (try simp only [List.set_cons_succ] at hs1); (try simp only [List.set_cons_zero] at hs1)) | ((with_reducible apply wl_load); assumption; rfl; (repeat (first | assumption | exact Cl.blk rfl | apply Cl.cons))) | ((with_reducible apply wl_b2s); assumption; rfl; (repeat (first | assumption | exact Rd.own | exact Rd.nil | apply Rd.cons)); first | rfl | (simp [B8_app]))) | fail)
          go_roundw
          case rel => exact ⟨k + 1, by go_num, by omega, BkInv.mk (by assumption) (by (repeat (first | exact Pick.nil _ | exact Pick.tail _ | exact Out.here _ | apply Out.there | apply Pick.cons | apply Pick.drop))) (by rw [Hit.out]; obtain ⟨rfl, rfl, rfl, rfl⟩ := Hxs.out; simp [enc_app, B8_app, I8, S8, enc_two x t g5, Hz.out, Hy.out, Nat.add_assoc])⟩
          case measure => simp [intOf]; omega
    · -- the second part
      obtain ⟨xs, hxs⟩ : ∃ xs, xs = items l m k := ⟨_, rfl⟩
      have hok := items_ok l m k
      have hel1 := enc_len l m k
      have hitl := items_len l m k
      have htl : tot m k ≤ 1048576 := by have := tot_le m k; omega
      rw [← hxs] at hs2 hok hel1 hitl ⊢
      have hbl : (enc xs).length ≤ 16777216 := by omega
      have hxb : xs.length ≤ 2097152 := by omega
      clear hxs hel1 hitl htl hm hel hv hR
      obtain ⟨nx, hnx⟩ : ∃ nx, nx = xs.length := ⟨_, rfl⟩
      rw [← hnx] at hs2 hxb ⊢
      have Hnx : Hid (nx = xs.length) := hnx
      clear hnx
      have hs3 : Sat w0 wr (own 5 1 Ab cb (enc xs).length (B8 (enc xs)) :: own 3 1 Aw cw nx (I8 (xs.map (·.1))) :: own 9 1 At ct nx (S8 (xs.map (·.2))) :: L) := hs2
      clear hs2
      go_wp2_with (first | (go_at_call 29; refine (new_spec (enc xs) (by omega) (by assumption) Rd.own).mono ?_; rintro e w3 ⟨p, bx, rfl, hs3⟩) | (first | ((with_reducible apply wl_unguard); rfl) | ((with_reducible apply wl_buildSlice); assumption; rfl; (go_simp; rfl); (simp [Value.cells]); omega; intro b w1 hs1) | ((with_reducible apply wl_append); go_must (assumption; rfl; rfl; (repeat (first | exact Out.here _ | apply Out.there)); (repeat (first | assumption | exact Rd.own | exact Rd.nil | apply Rd.cons)); (first | exact B8_one _ | exact I8_one _ | (simp [Value.oneCell'])); (first | omega | (simp only [maxLen]; omega)); omega; intro A1 c1 w1 hs1 hc1; (try ((refine hs1.own_elim ?_ ?_); omega; rintro g1 rfl)); try simp only [Nat.zero_add, List.nil_append] at hs1 hc1)) | ((with_reducible apply wl_store_own); assumption; rfl; (go_simp; rfl); (repeat (first | exact Out.here _ | apply Out.there)); rfl; rfl; omega; intro w1 hs1) | ((with_reducible apply wl_store1); assumption; rfl; (go_simp; rfl); (repeat (first | exact Out.here _ | apply Out.there)); rfl; rfl; simp; intro w1 hs1; (try simp only [List.setIfInBounds_toArray] at hs1); (try simp only [List.set_cons_succ] at hs1); (try simp only [List.set_cons_zero] at hs1)) | ((with_reducible apply wl_load); assumption; rfl; (repeat (first | assumption | exact Cl.blk rfl | apply Cl.cons))) | ((with_reducible apply wl_b2s); assumption; rfl; (repeat (first | assumption | exact Rd.own | exact Rd.nil | apply Rd.cons)); first | rfl | (simp [B8_app]))) | fail)
      go_loopw [14] (fun i wr => ∃ j : Nat, i = .int .i64 j ∧ j ≤ nx ∧ Sat w0 wr (Rd1 bx p 0 (enc (xs.drop j)) :: bx :: own 3 1 Aw cw nx (I8 (xs.map (·.1))) :: own 9 1 At ct nx (S8 (xs.map (·.2))) :: L)) (fun i _ => nx - (intOf i).toNat)
      case atStart => exact ⟨0, rfl, Nat.zero_le _, hs3.pick (by (repeat (first | exact Pick.nil _ | exact Pick.tail _ | exact Out.here _ | apply Out.there | apply Pick.cons | apply Pick.drop)))⟩
      case round =>
        obtain ⟨j, rfl, hj, hs4⟩ := hrel
        clear hs3
        by_cases hjn : j < nx
        · obtain ⟨x, hx⟩ : ∃ x, xs[j]? = some x := ⟨xs[j]'(by have := Hnx.out; omega), List.getElem?_eq_getElem _⟩
          have hox := hok x (List.mem_of_getElem? hx)
          have hed := enc_drop xs j x hx
          obtain ⟨rest, hrest⟩ : ∃ rest, rest = enc (xs.drop (j + 1)) := ⟨_, rfl⟩
          rw [← hrest] at hed
          have Hrest : Hid (rest = enc (xs.drop (j + 1))) := hrest
          clear hrest
          obtain ⟨gw, rfl⟩ := (hs4.pick (T := own 3 1 Aw cw nx (I8 (xs.map (·.1))) :: L) (by (repeat (first | exact Pick.nil _ | exact Pick.tail _ | exact Out.here _ | apply Out.there | apply Pick.cons | apply Pick.drop)))).own_some (by omega)
          obtain ⟨gt, rfl⟩ := (hs4.pick (T := own 9 1 At ct nx (S8 (xs.map (·.2))) :: L) (by (repeat (first | exact Pick.nil _ | exact Pick.tail _ | exact Out.here _ | apply Out.there | apply Pick.cons | apply Pick.drop)))).own_some (by omega)
          have kw : ∀ w', Sat w0 w' (own 3 1 (some ⟨gw, 0, none⟩) cw nx (I8 (xs.map (·.1))) :: own 9 1 (some ⟨gt, 0, none⟩) ct nx (S8 (xs.map (·.2))) :: L) → w'.cell? ⟨gw, j, none⟩ = some (.int .i64 x.1) := fun w' h => by
            have := (Rd.own (w0 := w0) (L := own 9 1 (some ⟨gt, 0, none⟩) ct nx (S8 (xs.map (·.2))) :: L)).elt (k := j) (u := .int .i64 x.1) (by simp [I8, hx]) w' h
            simpa using this
          have kt : ∀ w', Sat w0 w' (own 3 1 (some ⟨gw, 0, none⟩) cw nx (I8 (xs.map (·.1))) :: own 9 1 (some ⟨gt, 0, none⟩) ct nx (S8 (xs.map (·.2))) :: L) → w'.cell? ⟨gt, j, none⟩ = some (.string ⟨x.2.toArray⟩) := fun w' h => by
            have := ((Rd.own (w0 := w0) (L := L)).elt (k := j) (u := .string ⟨x.2.toArray⟩) (by simp [S8, hx])).cons w' h
            simpa using this
          have hcw := (hs4.pick (T := own 3 1 (some ⟨gw, 0, none⟩) cw nx (I8 (xs.map (·.1))) :: L) (by (repeat (first | exact Pick.nil _ | exact Pick.tail _ | exact Out.here _ | apply Out.there | apply Pick.cons | apply Pick.drop)))).own_cap
          clear hok hx
          obtain ⟨xn, xt⟩ := x
          rw [hed] at hs4
          have hrl : (encItem (xn, xt) ++ rest).length ≤ 16777216 := by
            rw [← hed]; have := enc_drop_len xs j; omega
          by_cases hneg : xn < 0
          · obtain ⟨hxl, hx1⟩ := hox.1 hneg
            simp only at hxl hx1 kw kt
            subst hx1
            have he : encItem (-1, xt) ++ rest = num xt.length ++ xt ++ rest := by simp [encItem]
            have hB : ∀ {w : World}, Sat w0 w (Rd1 bx p 0 (encItem (-1, xt) ++ rest) :: bx :: (own 3 1 (some ⟨gw, 0, none⟩) cw nx (I8 (xs.map (·.1))) :: own 9 1 (some ⟨gt, 0, none⟩) ct nx (S8 (xs.map (·.2))) :: L)) → Calls Try.prog 26 #[.pointer (some ⟨p, 0, none⟩)] w (RetS w0 (Rd1 bx p 0 rest :: bx :: (own 3 1 (some ⟨gw, 0, none⟩) cw nx (I8 (xs.map (·.1))) :: own 9 1 (some ⟨gt, 0, none⟩) ct nx (S8 (xs.map (·.2))) :: L)) xt) := fun hs => by
              have := bytes_read 0 _ (by omega) hs
              rwa [he, rdBytes_text xt hxl] at this
            clear hed hox hrl he
            go_wp2_with fail
            refine rg_start2 (L := own 3 1 (some ⟨gw, 0, none⟩) cw nx (I8 (xs.map (·.1))) :: own 9 1 (some ⟨gt, 0, none⟩) ct nx (S8 (xs.map (·.2))) :: L) rfl hs4 (by (repeat (first | exact Pick.nil _ | exact Pick.tail _ | exact Out.here _ | apply Out.there | apply Pick.cons | apply Pick.drop))) (fun wr0 hsr0 hsr1 => ?_)
            refine rg_take (i := 0) (v := ?_) rfl (by kernel_rfl) (by kernel_rfl) (by kernel_rfl) (fun _ _ _ h => h) (by with_unfolding_all rfl) (by assumption) ?_ ?_
            rotate_left
            · intro w hSw; (first | (go_simp; done) | (go_simp; with_reducible rfl) | (go_simp; rfl))
            (try simp only [Act.put, List.setIfInBounds_toArray, List.set_cons_zero, List.set_cons_succ])
            refine rg_take (i := 1) (v := ?_) rfl (by kernel_rfl) (by kernel_rfl) (by kernel_rfl) (fun _ _ _ h => h) (by with_unfolding_all rfl) (by assumption) ?_ ?_
            rotate_left
            · intro w hSw; (first | (go_simp; done) | (go_simp; with_reducible rfl) | (go_simp; rfl))
            (try simp only [Act.put, List.setIfInBounds_toArray, List.set_cons_zero, List.set_cons_succ])
            refine rg_take (i := 2) (v := ?_) rfl (by kernel_rfl) (by kernel_rfl) (by kernel_rfl) (fun _ _ _ h => h) (by with_unfolding_all rfl) (by assumption) ?_ ?_
            rotate_left
            · intro w hSw; (first | (go_simp; done) | (go_simp; with_reducible rfl) | (go_simp; rfl))
            (try simp only [Act.put, List.setIfInBounds_toArray, List.set_cons_zero, List.set_cons_succ])
            refine rg_take (i := 3) (v := ?_) rfl (by kernel_rfl) (by kernel_rfl) (by kernel_rfl) (fun _ _ _ h => h) (by with_unfolding_all rfl) (by assumption) ?_ ?_
            rotate_left
            · intro w hSw; ((with_reducible apply yl_load); assumption; rfl; (repeat (first | assumption | exact Cl.blk rfl | apply Cl.cons)))
            (try simp only [Act.put, List.setIfInBounds_toArray, List.set_cons_zero, List.set_cons_succ])
            refine rg_take (i := 4) (v := ?_) rfl (by kernel_rfl) (by kernel_rfl) (by kernel_rfl) (fun _ _ _ h => h) (by with_unfolding_all rfl) (by assumption) ?_ ?_
            rotate_left
            · intro w hSw; (first | (go_simp; done) | (go_simp; with_reducible rfl) | (go_simp; rfl))
            (try simp only [Act.put, List.setIfInBounds_toArray, List.set_cons_zero, List.set_cons_succ])
            refine rg_take (i := 5) (v := ?_) rfl (by kernel_rfl) (by kernel_rfl) (by kernel_rfl) (fun _ _ _ h => h) (by with_unfolding_all rfl) (by assumption) ?_ ?_
            rotate_left
            · intro w hSw; (first | (go_simp; done) | (go_simp; with_reducible rfl) | (go_simp; rfl))
            (try simp only [Act.put, List.setIfInBounds_toArray, List.set_cons_zero, List.set_cons_succ])
            refine rg_take (i := 6) (v := ?_) rfl (by kernel_rfl) (by kernel_rfl) (by kernel_rfl) (fun _ _ _ h => h) (by with_unfolding_all rfl) (by assumption) ?_ ?_
            rotate_left
            · intro w hSw; (first | (go_simp; done) | (go_simp; with_reducible rfl) | (go_simp; rfl))
            (try simp only [Act.put, List.setIfInBounds_toArray, List.set_cons_zero, List.set_cons_succ])
            refine rg_take (i := 9) (v := ?_) rfl (by kernel_rfl) (by kernel_rfl) (by kernel_rfl) (fun _ _ _ h => h) (by with_unfolding_all rfl) (by assumption) ?_ ?_
            rotate_left
            · intro w hSw; (first | (go_simp; done) | (go_simp; with_reducible rfl) | (go_simp; rfl))
            (try simp only [Act.put, List.setIfInBounds_toArray, List.set_cons_zero, List.set_cons_succ])
            refine rg_take (i := 10) (v := ?_) rfl (by kernel_rfl) (by kernel_rfl) (by kernel_rfl) (fun _ _ _ h => h) (by with_unfolding_all rfl) (by assumption) ?_ ?_
            rotate_left
            · intro w hSw; (first | (go_simp; done) | (go_simp; with_reducible rfl) | (go_simp; rfl))
            (try simp only [Act.put, List.setIfInBounds_toArray, List.set_cons_zero, List.set_cons_succ])
            refine rg_take (i := 11) (v := ?_) rfl (by kernel_rfl) (by kernel_rfl) (by kernel_rfl) (fun _ _ _ h => h) (by with_unfolding_all rfl) (by assumption) ?_ ?_
            rotate_left
            · intro w hSw; (first | (go_simp; done) | (go_simp; with_reducible rfl) | (go_simp; rfl))
            (try simp only [Act.put, List.setIfInBounds_toArray, List.set_cons_zero, List.set_cons_succ])
            refine rg_take (i := 12) (v := ?_) rfl (by kernel_rfl) (by kernel_rfl) (by kernel_rfl) (fun _ _ _ h => h) (by with_unfolding_all rfl) (by assumption) ?_ ?_
            rotate_left
            · intro w hSw; ((with_reducible apply yl_load); assumption; rfl; (repeat (first | assumption | exact Cl.blk rfl | apply Cl.cons)))
            (try simp only [Act.put, List.setIfInBounds_toArray, List.set_cons_zero, List.set_cons_succ])
            refine rg_one (i := 7) (by kernel_rfl) rfl (by with_unfolding_all rfl) (fun K hK => ?_)
            go_simp
            (refine (hB hsr0).mono ?_; rintro e' w9 ⟨A9, c9, rfl, hs9⟩)
            (try go_wp2_with fail)
            refine rg_back (hK := hK) ?_ (fun hsk => ?_)
            · (first | assumption | (apply Sat.drew; assumption) | (apply Sat.pick; assumption; (repeat (first | exact Pick.nil _ | exact Pick.tail _ | exact Out.here _ | apply Out.there | apply Pick.cons | apply Pick.drop))))
            clear hK K
            refine rg_more (L' := _) (Sat.pickOf hs9 (by (repeat (first | exact Pick.nil _ | exact Pick.tail _ | exact Out.here _ | apply Out.there | apply Pick.cons | apply Pick.drop)))) ?_
            (try simp only [Act.put, List.setIfInBounds_toArray, List.set_cons_zero, List.set_cons_succ])
            refine rg_take (i := 8) (v := ?_) rfl (by kernel_rfl) (by kernel_rfl) (by kernel_rfl) (fun _ _ _ h => h) (by with_unfolding_all rfl) (by assumption) ?_ ?_
            rotate_left
            · intro w hSw; (go_must ((with_reducible apply yl_b2s); assumption; rfl; (repeat (first | assumption | exact Rd.own | exact Rd.nil | apply Rd.cons)); rfl))
            (try simp only [Act.put, List.setIfInBounds_toArray, List.set_cons_zero, List.set_cons_succ])
            refine rg_take (i := 13) (v := ?_) rfl (by kernel_rfl) (by kernel_rfl) (by kernel_rfl) (fun _ _ _ h => h) (by with_unfolding_all rfl) (by assumption) ?_ ?_
            rotate_left
            · intro w hSw; (first | (go_simp; done) | (go_simp; with_reducible rfl) | (go_simp; rfl))
            (try simp only [Act.put, List.setIfInBounds_toArray, List.set_cons_zero, List.set_cons_succ])
            refine rg_take (i := 14) (v := ?_) rfl (by kernel_rfl) (by kernel_rfl) (by kernel_rfl) (fun _ _ _ h => h) (by with_unfolding_all rfl) (by assumption) ?_ ?_
            rotate_left
            · intro w hSw; (first | (go_simp; done) | (go_simp; with_reducible rfl) | (go_simp; rfl))
            (try simp only [Act.put, List.setIfInBounds_toArray, List.set_cons_zero, List.set_cons_succ])
            refine rg_take (i := 15) (v := ?_) rfl (by kernel_rfl) (by kernel_rfl) (by kernel_rfl) (fun _ _ _ h => h) (by with_unfolding_all rfl) (by assumption) ?_ ?_
            rotate_left
            · intro w hSw; (first | (go_simp; done) | (go_simp; with_reducible rfl) | (go_simp; rfl))
            (try simp only [Act.put, List.setIfInBounds_toArray, List.set_cons_zero, List.set_cons_succ])
            refine rg_take (i := 16) (v := ?_) rfl (by kernel_rfl) (by kernel_rfl) (by kernel_rfl) (fun _ _ _ h => h) (by with_unfolding_all rfl) (by assumption) ?_ ?_
            rotate_left
            · intro w hSw; (first | (go_simp; done) | (go_simp; with_reducible rfl) | (go_simp; rfl))
            (try simp only [Act.put, List.setIfInBounds_toArray, List.set_cons_zero, List.set_cons_succ])
            refine rg_take (i := 17) (v := ?_) rfl (by kernel_rfl) (by kernel_rfl) (by kernel_rfl) (fun _ _ _ h => h) (by with_unfolding_all rfl) (by assumption) ?_ ?_
            rotate_left
            · intro w hSw; (first | (go_simp; done) | (go_simp; with_reducible rfl) | (go_simp; rfl))
            (try simp only [Act.put, List.setIfInBounds_toArray, List.set_cons_zero, List.set_cons_succ])
            refine rg_take (i := 18) (v := ?_) rfl (by kernel_rfl) (by kernel_rfl) (by kernel_rfl) (fun _ _ _ h => h) (by with_unfolding_all rfl) (by assumption) ?_ ?_
            rotate_left
            · intro w hSw; (first | (go_simp; done) | (go_simp; with_reducible rfl) | (go_simp; rfl))
            (try simp only [Act.put, List.setIfInBounds_toArray, List.set_cons_zero, List.set_cons_succ])
            refine rg_take (i := 19) (v := ?_) rfl (by kernel_rfl) (by kernel_rfl) (by kernel_rfl) (fun _ _ _ h => h) (by with_unfolding_all rfl) (by assumption) ?_ ?_
            rotate_left
            · intro w hSw; ((with_reducible apply yl_load); assumption; rfl; (repeat (first | assumption | exact Cl.blk rfl | apply Cl.cons)))
            (try simp only [Act.put, List.setIfInBounds_toArray, List.set_cons_zero, List.set_cons_succ])
            refine rg_take (i := 20) (v := ?_) rfl (by kernel_rfl) (by kernel_rfl) (by kernel_rfl) (fun _ _ _ h => h) (by with_unfolding_all rfl) (by assumption) ?_ ?_
            rotate_left
            · intro w hSw; (first | (go_simp; done) | (go_simp; with_reducible rfl) | (go_simp; rfl))
            (try simp only [Act.put, List.setIfInBounds_toArray, List.set_cons_zero, List.set_cons_succ])
            refine rg_take (i := 21) (v := ?_) rfl (by kernel_rfl) (by kernel_rfl) (by kernel_rfl) (fun _ _ _ h => h) (by with_unfolding_all rfl) (by assumption) ?_ ?_
            rotate_left
            · intro w hSw; (first | (go_simp; done) | (go_simp; with_reducible rfl) | (go_simp; rfl))
            (try simp only [Act.put, List.setIfInBounds_toArray, List.set_cons_zero, List.set_cons_succ])
            refine rg_skip (i := 22) rfl (by kernel_rfl) (by kernel_rfl) (by kernel_rfl) (fun _ _ _ h => h) (by with_unfolding_all rfl) (by assumption) ?_
            (try simp only [Act.put, List.setIfInBounds_toArray, List.set_cons_zero, List.set_cons_succ])
            refine rg_skip (i := 23) rfl (by kernel_rfl) (by kernel_rfl) (by kernel_rfl) (fun _ _ _ h => h) (by with_unfolding_all rfl) (by assumption) ?_
            (try simp only [Act.put, List.setIfInBounds_toArray, List.set_cons_zero, List.set_cons_succ])
            refine rg_skip (i := 24) rfl (by kernel_rfl) (by kernel_rfl) (by kernel_rfl) (fun _ _ _ h => h) (by with_unfolding_all rfl) (by assumption) ?_
            (try simp only [Act.put, List.setIfInBounds_toArray, List.set_cons_zero, List.set_cons_succ])
            refine rg_skip (i := 25) rfl (by kernel_rfl) (by kernel_rfl) (by kernel_rfl) (fun _ _ _ h => h) (by with_unfolding_all rfl) (by assumption) ?_
            (try simp only [Act.put, List.setIfInBounds_toArray, List.set_cons_zero, List.set_cons_succ])
            refine rg_skip (i := 26) rfl (by kernel_rfl) (by kernel_rfl) (by kernel_rfl) (fun _ _ _ h => h) (by with_unfolding_all rfl) (by assumption) ?_
            (try simp only [Act.put, List.setIfInBounds_toArray, List.set_cons_zero, List.set_cons_succ])
            refine rg_skip (i := 27) rfl (by kernel_rfl) (by kernel_rfl) (by kernel_rfl) (fun _ _ _ h => h) (by with_unfolding_all rfl) (by assumption) ?_
            (try simp only [Act.put, List.setIfInBounds_toArray, List.set_cons_zero, List.set_cons_succ])
            refine rg_skip (i := 28) rfl (by kernel_rfl) (by kernel_rfl) (by kernel_rfl) (fun _ _ _ h => h) (by with_unfolding_all rfl) (by assumption) ?_
            (try simp only [Act.put, List.setIfInBounds_toArray, List.set_cons_zero, List.set_cons_succ])
            refine rg_take (i := 29) (v := ?_) rfl (by kernel_rfl) (by kernel_rfl) (by kernel_rfl) (fun _ _ _ h => h) (by with_unfolding_all rfl) (by assumption) ?_ ?_
            rotate_left
            · intro w hSw; (first | (go_simp; done) | (go_simp; with_reducible rfl) | (go_simp; rfl))
            (try simp only [Act.put, List.setIfInBounds_toArray, List.set_cons_zero, List.set_cons_succ])
            refine rg_take (i := 30) (v := ?_) rfl (by kernel_rfl) (by kernel_rfl) (by kernel_rfl) (fun _ _ _ h => h) (by with_unfolding_all rfl) (by assumption) ?_ ?_
            rotate_left
            · intro w hSw; (first | (go_simp; done) | (go_simp; with_reducible rfl) | (go_simp; rfl))
            (try simp only [Act.put, List.setIfInBounds_toArray, List.set_cons_zero, List.set_cons_succ])
            refine rg_done (by kernel_rfl) ?_
            go_wp2_with fail
            go_roundw
            case rel => exact ⟨j + 1, by go_num, by omega, by rw [← Hrest.out]; exact hs9.pick (by (repeat (first | exact Pick.nil _ | exact Pick.tail _ | exact Out.here _ | apply Out.there | apply Pick.cons | apply Pick.drop)))⟩
            case measure => simp [intOf]; omega
          · have hxn := hox.2 (by simp only; omega)
            obtain ⟨hxl, hx1⟩ := hxn
            simp only at hxl hx1 kw kt hneg
            subst hx1
            have he : encItem (xn, []) ++ rest = num xn.toNat ++ rest := by simp only [encItem]; rw [if_neg hneg]
            have hB : ∀ {w : World}, Sat w0 w (Rd1 bx p 0 (encItem (xn, []) ++ rest) :: bx :: (own 3 1 (some ⟨gw, 0, none⟩) cw nx (I8 (xs.map (·.1))) :: own 9 1 (some ⟨gt, 0, none⟩) ct nx (S8 (xs.map (·.2))) :: L)) → Calls Try.prog 24 #[.pointer (some ⟨p, 0, none⟩)] w (RetN w0 (own 3 1 (some ⟨gw, 0, none⟩) cw nx (I8 (xs.map (·.1))) :: own 9 1 (some ⟨gt, 0, none⟩) ct nx (S8 (xs.map (·.2))) :: L) bx p (xn, 0, rest)) := fun hs => by
              have := number_read 0 _ (by omega) hs
              rwa [he, rdNumber_num _ (by omega), Int.toNat_of_nonneg (by omega)] at this
            clear hed hox hrl he
            have d0 : decide (xn < 0) = false := by simp; omega
            have d1 : decide (0 ≤ xn) = true := by simp; omega
            go_wp2_with fail
            refine rg_start2 (L := own 3 1 (some ⟨gw, 0, none⟩) cw nx (I8 (xs.map (·.1))) :: own 9 1 (some ⟨gt, 0, none⟩) ct nx (S8 (xs.map (·.2))) :: L) rfl hs4 (by (repeat (first | exact Pick.nil _ | exact Pick.tail _ | exact Out.here _ | apply Out.there | apply Pick.cons | apply Pick.drop))) (fun wr0 hsr0 hsr1 => ?_)
            refine rg_take (i := 0) (v := ?_) rfl (by kernel_rfl) (by kernel_rfl) (by kernel_rfl) (fun _ _ _ h => h) (by with_unfolding_all rfl) (by assumption) ?_ ?_
            rotate_left
            · intro w hSw; (first | (go_simp; done) | (go_simp; with_reducible rfl) | (go_simp; rfl))
            (try simp only [Act.put, List.setIfInBounds_toArray, List.set_cons_zero, List.set_cons_succ])
            refine rg_take (i := 1) (v := ?_) rfl (by kernel_rfl) (by kernel_rfl) (by kernel_rfl) (fun _ _ _ h => h) (by with_unfolding_all rfl) (by assumption) ?_ ?_
            rotate_left
            · intro w hSw; (first | (go_simp; done) | (go_simp; with_reducible rfl) | (go_simp; rfl))
            (try simp only [Act.put, List.setIfInBounds_toArray, List.set_cons_zero, List.set_cons_succ])
            refine rg_take (i := 2) (v := ?_) rfl (by kernel_rfl) (by kernel_rfl) (by kernel_rfl) (fun _ _ _ h => h) (by with_unfolding_all rfl) (by assumption) ?_ ?_
            rotate_left
            · intro w hSw; (first | (go_simp; done) | (go_simp; with_reducible rfl) | (go_simp; rfl))
            (try simp only [Act.put, List.setIfInBounds_toArray, List.set_cons_zero, List.set_cons_succ])
            refine rg_take (i := 3) (v := ?_) rfl (by kernel_rfl) (by kernel_rfl) (by kernel_rfl) (fun _ _ _ h => h) (by with_unfolding_all rfl) (by assumption) ?_ ?_
            rotate_left
            · intro w hSw; ((with_reducible apply yl_load); assumption; rfl; (repeat (first | assumption | exact Cl.blk rfl | apply Cl.cons)))
            (try simp only [Act.put, List.setIfInBounds_toArray, List.set_cons_zero, List.set_cons_succ])
            refine rg_take (i := 4) (v := ?_) rfl (by kernel_rfl) (by kernel_rfl) (by kernel_rfl) (fun _ _ _ h => h) (by with_unfolding_all rfl) (by assumption) ?_ ?_
            rotate_left
            · intro w hSw; (first | (go_simp; done) | (go_simp; with_reducible rfl) | (go_simp; rfl))
            (try simp only [Act.put, List.setIfInBounds_toArray, List.set_cons_zero, List.set_cons_succ])
            refine rg_take (i := 5) (v := ?_) rfl (by kernel_rfl) (by kernel_rfl) (by kernel_rfl) (fun _ _ _ h => h) (by with_unfolding_all rfl) (by assumption) ?_ ?_
            rotate_left
            · intro w hSw; (first | (go_simp; done) | (go_simp; with_reducible rfl) | (go_simp; rfl))
            (try simp only [Act.put, List.setIfInBounds_toArray, List.set_cons_zero, List.set_cons_succ])
            refine rg_skip (i := 6) rfl (by kernel_rfl) (by kernel_rfl) (by kernel_rfl) (fun _ _ _ h => h) (by with_unfolding_all rfl) (by assumption) ?_
            (try simp only [Act.put, List.setIfInBounds_toArray, List.set_cons_zero, List.set_cons_succ])
            refine rg_skip (i := 7) rfl (by kernel_rfl) (by kernel_rfl) (by kernel_rfl) (fun _ _ _ h => h) (by with_unfolding_all rfl) (by assumption) ?_
            (try simp only [Act.put, List.setIfInBounds_toArray, List.set_cons_zero, List.set_cons_succ])
            refine rg_skip (i := 8) rfl (by kernel_rfl) (by kernel_rfl) (by kernel_rfl) (fun _ _ _ h => h) (by with_unfolding_all rfl) (by assumption) ?_
            (try simp only [Act.put, List.setIfInBounds_toArray, List.set_cons_zero, List.set_cons_succ])
            refine rg_skip (i := 9) rfl (by kernel_rfl) (by kernel_rfl) (by kernel_rfl) (fun _ _ _ h => h) (by with_unfolding_all rfl) (by assumption) ?_
            (try simp only [Act.put, List.setIfInBounds_toArray, List.set_cons_zero, List.set_cons_succ])
            refine rg_skip (i := 10) rfl (by kernel_rfl) (by kernel_rfl) (by kernel_rfl) (fun _ _ _ h => h) (by with_unfolding_all rfl) (by assumption) ?_
            (try simp only [Act.put, List.setIfInBounds_toArray, List.set_cons_zero, List.set_cons_succ])
            refine rg_skip (i := 11) rfl (by kernel_rfl) (by kernel_rfl) (by kernel_rfl) (fun _ _ _ h => h) (by with_unfolding_all rfl) (by assumption) ?_
            (try simp only [Act.put, List.setIfInBounds_toArray, List.set_cons_zero, List.set_cons_succ])
            refine rg_skip (i := 12) rfl (by kernel_rfl) (by kernel_rfl) (by kernel_rfl) (fun _ _ _ h => h) (by with_unfolding_all rfl) (by assumption) ?_
            (try simp only [Act.put, List.setIfInBounds_toArray, List.set_cons_zero, List.set_cons_succ])
            refine rg_skip (i := 13) rfl (by kernel_rfl) (by kernel_rfl) (by kernel_rfl) (fun _ _ _ h => h) (by with_unfolding_all rfl) (by assumption) ?_
            (try simp only [Act.put, List.setIfInBounds_toArray, List.set_cons_zero, List.set_cons_succ])
            refine rg_take (i := 14) (v := ?_) rfl (by kernel_rfl) (by kernel_rfl) (by kernel_rfl) (fun _ _ _ h => h) (by with_unfolding_all rfl) (by assumption) ?_ ?_
            rotate_left
            · intro w hSw; (first | (go_simp; done) | (go_simp; with_reducible rfl) | (go_simp; rfl))
            (try simp only [Act.put, List.setIfInBounds_toArray, List.set_cons_zero, List.set_cons_succ])
            refine rg_take (i := 15) (v := ?_) rfl (by kernel_rfl) (by kernel_rfl) (by kernel_rfl) (fun _ _ _ h => h) (by with_unfolding_all rfl) (by assumption) ?_ ?_
            rotate_left
            · intro w hSw; (first | (go_simp; done) | (go_simp; with_reducible rfl) | (go_simp; rfl))
            (try simp only [Act.put, List.setIfInBounds_toArray, List.set_cons_zero, List.set_cons_succ])
            refine rg_take (i := 16) (v := ?_) rfl (by kernel_rfl) (by kernel_rfl) (by kernel_rfl) (fun _ _ _ h => h) (by with_unfolding_all rfl) (by assumption) ?_ ?_
            rotate_left
            · intro w hSw; (first | (go_simp; done) | (go_simp; with_reducible rfl) | (go_simp; rfl))
            (try simp only [Act.put, List.setIfInBounds_toArray, List.set_cons_zero, List.set_cons_succ])
            refine rg_take (i := 17) (v := ?_) rfl (by kernel_rfl) (by kernel_rfl) (by kernel_rfl) (fun _ _ _ h => h) (by with_unfolding_all rfl) (by assumption) ?_ ?_
            rotate_left
            · intro w hSw; (first | (go_simp; done) | (go_simp; with_reducible rfl) | (go_simp; rfl))
            (try simp only [Act.put, List.setIfInBounds_toArray, List.set_cons_zero, List.set_cons_succ])
            refine rg_take (i := 18) (v := ?_) rfl (by kernel_rfl) (by kernel_rfl) (by kernel_rfl) (fun _ _ _ h => h) (by with_unfolding_all rfl) (by assumption) ?_ ?_
            rotate_left
            · intro w hSw; (first | (go_simp; done) | (go_simp; with_reducible rfl) | (go_simp; rfl))
            (try simp only [Act.put, List.setIfInBounds_toArray, List.set_cons_zero, List.set_cons_succ])
            refine rg_take (i := 19) (v := ?_) rfl (by kernel_rfl) (by kernel_rfl) (by kernel_rfl) (fun _ _ _ h => h) (by with_unfolding_all rfl) (by assumption) ?_ ?_
            rotate_left
            · intro w hSw; ((with_reducible apply yl_load); assumption; rfl; (repeat (first | assumption | exact Cl.blk rfl | apply Cl.cons)))
            (try simp only [Act.put, List.setIfInBounds_toArray, List.set_cons_zero, List.set_cons_succ])
            refine rg_take (i := 20) (v := ?_) rfl (by kernel_rfl) (by kernel_rfl) (by kernel_rfl) (fun _ _ _ h => h) (by with_unfolding_all rfl) (by assumption) ?_ ?_
            rotate_left
            · intro w hSw; (first | (go_simp; done) | (go_simp; with_reducible rfl) | (go_simp; rfl))
            (try simp only [Act.put, List.setIfInBounds_toArray, List.set_cons_zero, List.set_cons_succ])
            refine rg_take (i := 21) (v := ?_) rfl (by kernel_rfl) (by kernel_rfl) (by kernel_rfl) (fun _ _ _ h => h) (by with_unfolding_all rfl) (by assumption) ?_ ?_
            rotate_left
            · intro w hSw; (first | (go_simp; done) | (go_simp; with_reducible rfl) | (go_simp; rfl))
            (try simp only [Act.put, List.setIfInBounds_toArray, List.set_cons_zero, List.set_cons_succ])
            refine rg_take (i := 22) (v := ?_) rfl (by kernel_rfl) (by kernel_rfl) (by kernel_rfl) (fun _ _ _ h => h) (by with_unfolding_all rfl) (by assumption) ?_ ?_
            rotate_left
            · intro w hSw; (first | (go_simp; done) | (go_simp; with_reducible rfl) | (go_simp; rfl))
            (try simp only [Act.put, List.setIfInBounds_toArray, List.set_cons_zero, List.set_cons_succ])
            refine rg_take (i := 24) (v := ?_) rfl (by kernel_rfl) (by kernel_rfl) (by kernel_rfl) (fun _ _ _ h => h) (by with_unfolding_all rfl) (by assumption) ?_ ?_
            rotate_left
            · intro w hSw; (first | (go_simp; done) | (go_simp; with_reducible rfl) | (go_simp; rfl))
            (try simp only [Act.put, List.setIfInBounds_toArray, List.set_cons_zero, List.set_cons_succ])
            refine rg_take (i := 25) (v := ?_) rfl (by kernel_rfl) (by kernel_rfl) (by kernel_rfl) (fun _ _ _ h => h) (by with_unfolding_all rfl) (by assumption) ?_ ?_
            rotate_left
            · intro w hSw; (first | (go_simp; done) | (go_simp; with_reducible rfl) | (go_simp; rfl))
            (try simp only [Act.put, List.setIfInBounds_toArray, List.set_cons_zero, List.set_cons_succ])
            refine rg_take (i := 26) (v := ?_) rfl (by kernel_rfl) (by kernel_rfl) (by kernel_rfl) (fun _ _ _ h => h) (by with_unfolding_all rfl) (by assumption) ?_ ?_
            rotate_left
            · intro w hSw; (first | (go_simp; done) | (go_simp; with_reducible rfl) | (go_simp; rfl))
            (try simp only [Act.put, List.setIfInBounds_toArray, List.set_cons_zero, List.set_cons_succ])
            refine rg_take (i := 27) (v := ?_) rfl (by kernel_rfl) (by kernel_rfl) (by kernel_rfl) (fun _ _ _ h => h) (by with_unfolding_all rfl) (by assumption) ?_ ?_
            rotate_left
            · intro w hSw; ((with_reducible apply yl_load); assumption; rfl; (repeat (first | assumption | exact Cl.blk rfl | apply Cl.cons)))
            (try simp only [Act.put, List.setIfInBounds_toArray, List.set_cons_zero, List.set_cons_succ])
            refine rg_one (i := 23) (by kernel_rfl) rfl (by with_unfolding_all rfl) (fun K hK => ?_)
            go_simp
            (refine (hB hsr0).mono ?_; rintro e' w9 ⟨rfl, hs9⟩; simp only at hs9)
            (try go_wp2_with fail)
            refine rg_back (hK := hK) ?_ (fun hsk => ?_)
            · (first | assumption | (apply Sat.drew; assumption) | (apply Sat.pick; assumption; (repeat (first | exact Pick.nil _ | exact Pick.tail _ | exact Out.here _ | apply Out.there | apply Pick.cons | apply Pick.drop))))
            clear hK K
            refine rg_more (L' := _) (Sat.pickOf hs9 (by (repeat (first | exact Pick.nil _ | exact Pick.tail _ | exact Out.here _ | apply Out.there | apply Pick.cons | apply Pick.drop)))) ?_
            (try simp only [Act.put, List.setIfInBounds_toArray, List.set_cons_zero, List.set_cons_succ])
            refine rg_take (i := 28) (v := ?_) rfl (by kernel_rfl) (by kernel_rfl) (by kernel_rfl) (fun _ _ _ h => h) (by with_unfolding_all rfl) (by assumption) ?_ ?_
            rotate_left
            · intro w hSw; (first | (go_simp; done) | (go_simp; with_reducible rfl) | (go_simp; rfl))
            (try simp only [Act.put, List.setIfInBounds_toArray, List.set_cons_zero, List.set_cons_succ])
            refine rg_take (i := 29) (v := ?_) rfl (by kernel_rfl) (by kernel_rfl) (by kernel_rfl) (fun _ _ _ h => h) (by with_unfolding_all rfl) (by assumption) ?_ ?_
            rotate_left
            · intro w hSw; (first | (go_simp; done) | (go_simp; with_reducible rfl) | (go_simp; rfl))
            (try simp only [Act.put, List.setIfInBounds_toArray, List.set_cons_zero, List.set_cons_succ])
            refine rg_take (i := 30) (v := ?_) rfl (by kernel_rfl) (by kernel_rfl) (by kernel_rfl) (fun _ _ _ h => h) (by with_unfolding_all rfl) (by assumption) ?_ ?_
            rotate_left
            · intro w hSw; (first | (go_simp; done) | (go_simp; with_reducible rfl) | (go_simp; rfl))
            (try simp only [Act.put, List.setIfInBounds_toArray, List.set_cons_zero, List.set_cons_succ])
            refine rg_done (by kernel_rfl) ?_
            go_wp2_with fail
            go_roundw
            case rel => exact ⟨j + 1, by go_num, by omega, by rw [← Hrest.out]; exact hs9.pick (by (repeat (first | exact Pick.nil _ | exact Pick.tail _ | exact Out.here _ | apply Out.there | apply Pick.cons | apply Pick.drop)))⟩
            case measure => simp [intOf]; omega
        · obtain rfl : j = nx := by omega
          have He : Hid (enc (xs.drop j) = []) := by rw [Hnx.out, List.drop_length]; rfl
          rw [He.out] at hs4
          have hE : ∀ {w : World} {L : List HP}, Sat w0 w (Rd1 bx p 0 [] :: L) → Calls Try.prog 28 #[.pointer (some ⟨p, 0, none⟩)] w (fun r w' => r = .returned (.int .i64 0) ∧ w = w') := fun hs => end_spec hs
          go_wp2_with (first | (go_at_call 28; refine (hE hs4).mono ?_; rintro e' w' ⟨rfl, rfl⟩) | (go_at_call 15; refine (errnum_spec _).mono ?_; rintro e' w' ⟨rfl, rfl⟩) | (go_at_call 18; refine (knows_spec hs4).mono ?_; rintro e w5 ⟨rfl, hs5⟩) | fail)
          go_ret
          exact ⟨rfl, hs5.tail.tail.tail.tail⟩
end Go.Proofs.Ytaenimnjaekmmaa
