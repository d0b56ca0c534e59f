/-
 Layer 27 (script): the writer of words: word, ints, String. Conditions: few words; the numbers are ints; the package variables are as start-up lays them (Glb).
 Layer 27 (script): the writer's String, value, raw. Conditions: few words, the texts no longer than 100000 bytes; the package variables are as start-up lays them (Glb).
-/
import Derived.Test.YtmebipnljkopgaaGreatDoorScrYt
import Derived.Test.YtmebipnljkopgaaGreatDoorScrR
namespace Go.Proofs.YtmebipnljkopgaaGreatDoor
set_option linter.unusedSimpArgs false
set_option linter.unusedVariables false
open Go.RowKit
/-- A writer in memory: its row of words lies in a block of P. -/
def WrM (W : World) (wb : Nat) (P : Nat → Prop) (ws : List (List UInt8)) : Prop := ∃ v, W.heap[wb]? = some (.cells [v].toArray 67 (0, 0)) ∧ W.ownsRow 0 9 1 v ws.length (ws.map fun x => Value.string (bA x)) ∧ ∀ g, v.ownBlock = some g → P g
theorem WrM.ext {W W' : World} {wb : Nat} {P : Nat → Prop} {ws : List (List UInt8)} (h : WrM W wb P ws) (hE : Ext W W') : WrM W' wb P ws := by
 obtain ⟨v, hb, ho, hv⟩ := h
 exact ⟨v, hE.blk hb id, own_mod ho hE (fun _ _ => id), hv⟩
theorem WrM.wide {W : World} {wb : Nat} {P Q : Nat → Prop} {ws : List (List UInt8)} (h : WrM W wb P ws) (hQ : ∀ g, P g → Q g) : WrM W wb Q ws := by
 obtain ⟨v, hb, ho, hv⟩ := h
 exact ⟨v, hb, ho, fun g hg => hQ g (hv g hg)⟩
def WwOut (W : World) (wb : Nat) (P : Nat → Prop) (ws : List (List UInt8)) (e : Ending) (W' : World) : Prop := e = .returned (.tuple #[]) ∧ WrM W' wb P ws ∧ Mod (fun g => g = wb ∨ P g) W W'
set_option maxRecDepth 100000 in
set_option maxHeartbeats 1000000 in
theorem s_wword (W : World) (wb : Nat) (P : Nat → Prop) (ws : List (List UInt8)) (s : List UInt8) (h : WrM W wb P ws) (hP : ∀ g, W.heap.size ≤ g → P g) (hPw : ∀ g, P g → wb < g) (hl : ws.length ≤ 1000) :
  Calls Tryz.prog 30 #[.pointer (some ⟨wb, 0, none⟩), .string (bA s)] W (WwOut W wb P (ws ++ [s])) := by
 obtain ⟨i0, hi, hz0, hz1, hz2⟩ := info_parts info_str
 obtain ⟨v, hb, ho, hv⟩ := h
 obtain ⟨n, hn⟩ : ∃ n, ws.length = n := ⟨_, rfl⟩
 rw [hn] at ho hl
 obtain ⟨A, c, rfl⟩ := own_form ho
 obtain ⟨z, hz⟩ : ∃ z, bA s = z := ⟨_, rfl⟩
 rw [hz]
 have hbl := (Array.getElem?_eq_some_iff.1 hb).1
 have c0 : W.cell? ⟨wb, 0, none⟩ = some (.slice A n c) := blk_cell hb rfl
 have f0 := blk_free 0 hb
 have Hb := Lib.hid hb
 have Hv := Lib.hid hv
 have Hz := Lib.hid hz
 have Hn := Lib.hid hn
 have HP := Lib.hid hP
 have HPw := Lib.hid hPw
 clear hb hv hz hn hP hPw
 go_enter Tryz.func30, Tryz.ntmps30
 go_wp2_with (at_builtin; go_must (refine wpList_app _ rfl _ _ 67 rfl 9 i0 _ 1 16 Tryz.underlying67 hi hz0 hz1 hz2 rfl (by omega) _ n (ws.map fun x => Value.string (bA x)) rfl (ho.alloc _) _ _ 1 _ rfl (Sl.one W _ _) (by simp [Value.oneCell']) (by simp only [maxLen]; omega) (by omega) ?_))
 intro v'' w1 ho1 hgr hat
 obtain ⟨A1, cv, rfl⟩ := own_form ho1
 obtain ⟨v', hv'e⟩ : ∃ v', Value.slice A1 (n + 1) cv = v' := ⟨_, rfl⟩
 rw [hv'e] at ho1 hat
 have hm1 : Mod (fun g => P g) W w1 := ((Mod.refl _ W).alloc _).grown hgr (fun k hk => .inr (Hv.out k hk))
 have hb1 := hm1.blk Hb.out (fun e => by have := HPw.out _ e; omega)
 have c1 : w1.cell? ⟨wb, 0, none⟩ = some (.slice A n c) := blk_cell hb1 rfl
 have f1 := blk_free 0 hb1
 have hb2 := blk_set hb1 0 v'
 have hm2 : Mod (fun g => g = wb) w1 (w1.setCell ⟨wb, 0, none⟩ v') := mod_same (Mod.refl _ _) 0 v'
 have hv' : ∀ g, v'.ownBlock = some g → P g := fun g hg => by
  rcases hat with e | e
  · rw [e] at hg; exact Hv.out g hg
  · rw [e] at hg; injection hg with hg
    exact HP.out g (by omega)
 have ho2 := own_mod ho1 hm2 (fun g hg e => by have := HPw.out g (hv' g hg); omega)
 have HR : Hid (WwOut W wb P (ws ++ [s]) (.returned (.tuple #[])) (w1.setCell ⟨wb, 0, none⟩ v')) := Lib.hid ⟨rfl, ⟨v', hb2, by
   rw [List.length_append, Hn.out, List.map_append]
   simp only [List.length_cons, List.length_nil, List.map_cons, List.map_nil, Hz.out]
   exact ho2, hv'⟩, (hm1.mono (fun _ _ h => .inr h)).trans hm2 (fun _ _ h => .inl h)⟩
 rw [← hv'e] at HR
 clear hm1 hb1 hb2 hm2 hv' ho2 ho1 hgr hat ho c0 f0 hv'e
 go_wp2
 go_end0
 exact HR.out
set_option maxRecDepth 100000 in
set_option maxHeartbeats 1000000 in
theorem s_wints (W : World) (hg : Glb W) (wb : Nat) (P : Nat → Prop) (ws : List (List UInt8)) (is : List Int) (sv : Value) (T : Nat → Prop) (h : WrM W wb P ws) (hP : ∀ g, W.heap.size ≤ g → P g) (hPw : ∀ g, P g → wb < g) (h9 : 9 ≤ wb) (hl : ws.length + is.length ≤ 1000)
  (hs : Sl W T 1 sv is.length (is.map (Value.int .i64))) (hT : ∀ g, T g → g ≠ wb ∧ ¬ P g) (hi64 : ∀ i ∈ is, -9223372036854775808 ≤ i ∧ i ≤ 9223372036854775807) :
  Calls Tryz.prog 31 #[.pointer (some ⟨wb, 0, none⟩), sv] W (WwOut W wb P (ws ++ is.map Lib.itoa)) := by
 obtain ⟨n, hn⟩ : ∃ n, is.length = n := ⟨_, rfl⟩
 obtain ⟨A, cp, rfl⟩ : ∃ A cp, sv = .slice A is.length cp := by obtain ⟨_, A, c, e, _⟩ := hs; exact ⟨A, c, e⟩
 rw [hn] at hs hl ⊢
 have Hs := Lib.hid hs
 have Hn := Lib.hid hn
 have H := Lib.hid h
 have HP := Lib.hid hP
 have HPw := Lib.hid hPw
 have HT := Lib.hid hT
 have Hi64 := Lib.hid hi64
 have Hg := Lib.hid hg
 clear hs hn h hP hPw hT hi64 hg
 go_enter Tryz.func31, Tryz.ntmps31
 go_wp2
 go_loopw [8] (fun iv wr => ∃ (k : Nat), iv = .int .i64 k ∧ k ≤ n ∧ WrM wr wb P (ws ++ (is.take k).map Lib.itoa) ∧ Mod (fun g => g = wb ∨ P g) W wr) (fun iv _ => n - (intOf iv).toNat)
 case atStart => exact ⟨0, rfl, by omega, by simpa using H.out, Mod.refl _ _⟩
 case round =>
  obtain ⟨k, rfl, hk, hW, hM⟩ := hrel
  have HW := Lib.hid hW
  have HM := Lib.hid hM
  clear hW hM
  by_cases hlt : k < n
  case neg =>
   obtain rfl : k = n := by omega
   have hd : decide (k < k) = false := by simp
   go_wp2
   go_end0
   refine ⟨rfl, ?_, HM.out⟩
   have := HW.out
   rwa [List.take_of_length_le (by rw [Hn.out]; exact Nat.le_refl _)] at this
  obtain ⟨x, hx⟩ : ∃ x, is[k]? = some x := ⟨_, List.getElem?_eq_getElem (by rw [Hn.out]; exact hlt)⟩
  obtain ⟨hx1, hx2⟩ := Hi64.out x (List.mem_of_getElem? hx)
  obtain ⟨g, off, rfl, hcell⟩ : ∃ g off, A = some ⟨g, off, none⟩ ∧ wr.cell? ⟨g, off + k, none⟩ = some (.int .i64 x) := by
   obtain ⟨_, A', c', e, _, _, hx'⟩ := Hs.out
   injection e with e1 _ e3; subst e1; subst e3
   obtain ⟨g, off, rfl, hgT, hcell⟩ := hx' (by omega)
   exact ⟨g, off, rfl, HM.out.cell (p := ⟨g, off + k, none⟩) (hcell k _ (by simp [hx])) (by rintro (e | e); exact (HT.out g hgT).1 e; exact (HT.out g hgT).2 e)⟩
  have hGr : Glb wr := Hg.out.mod HM.out (by rintro j hj (e | e); omega; have := HPw.out j e; omega)
  have hit := c_itoa x hx1 hx2 wr hGr
  have Hstp : Hid (ws ++ (is.take (k + 1)).map Lib.itoa = (ws ++ (is.take k).map Lib.itoa) ++ [Lib.itoa x]) := Lib.hid (by
   obtain ⟨h1, h2⟩ := List.getElem?_eq_some_iff.1 hx
   rw [show is.take (k + 1) = is.take k ++ [x] by rw [← h2]; exact List.take_succ_eq_append_getElem h1]
   simp)
  obtain ⟨t, ht⟩ : ∃ t, Lib.itoa x = t := ⟨_, rfl⟩
  rw [ht] at hit Hstp
  have hlen : (ws ++ (is.take k).map Lib.itoa).length ≤ 1000 := by rw [List.length_append, List.length_map, List.length_take]; omega
  clear ht hx
  go_upto_region 3 with fail
  go_wp2_with fail
  refine hit.mono ?_
  rintro e w2 ⟨rfl, hE2⟩
  have hsz := hE2.size
  have hi2 := s_wword w2 wb P _ t (HW.out.ext hE2) (fun g hg => HP.out g (Nat.le_trans (Nat.le_trans HM.out.size hsz) hg)) HPw.out hlen
  rw [← Hstp.out] at hi2
  have HM2 := Lib.hid (HM.out.ext hE2)
  clear hE2 hit hcell
  go_wp2_with fail
  refine hi2.mono ?_
  rintro e w3 ⟨rfl, hW3, hM3⟩
  have HW3 := Lib.hid hW3
  have HM3 := Lib.hid (HM2.out.self hM3)
  clear hW3 hM3 hi2
  go_wp2
  exact ⟨⟨k + 1, by push_cast; rfl, by omega, HW3.out, HM3.out⟩, by simp [intOf] <;> omega⟩
set_option maxRecDepth 100000 in
set_option maxHeartbeats 1000000 in
theorem s_wstr (W : World) (v : Value) (ws : List (List UInt8)) (T : Nat → Prop) (hs : Sl W T 1 v ws.length (ws.map fun x => Value.string (bA x))) (hl : ws.length ≤ 1000) (hj : (joinL ws).length ≤ 10000000) :
  Calls Tryz.prog 34 #[v] W fun e w' => e = .returned (.string (bA (joinL ws))) ∧ Ext W w' := by
 have hjn : ∃ A c, v = .slice A ws.length c ∧ Calls Tryz.prog 57 #[.slice A ws.length c, .string ⟨#[32]⟩] W fun e w' => e = .returned (.string (bA (joinL ws))) ∧ Ext W w' := by
  obtain ⟨hl1, A, c, rfl, hnc, hcm, hx⟩ := hs
  refine ⟨A, c, rfl, ?_⟩
  rcases ws with _ | ⟨x, r⟩
  · exact (Tryz.strings_Join_none A c ⟨#[32]⟩ W).mono fun e w' h => by
     obtain ⟨rfl, rfl⟩ := h
     exact ⟨rfl, Mod.refl _ _⟩
  obtain ⟨g, off, rfl, hT, hcell⟩ := hx (by simp)
  have hm : ((x :: r).map bA).map (·.data.toList) = x :: r := by
   rw [List.map_map]; exact List.map_id'' (fun y => bA_bs y) _
  have hlen : ((x :: r).map bA).length = (x :: r).length := List.length_map _
  have h := Tryz.strings_Join g off c ((x :: r).map bA) ⟨#[32]⟩ W (fun j y hy => hcell j _ (by
    rw [List.getElem?_map] at hy ⊢
    rcases hxj : (x :: r)[j]? with _ | u
    · rw [hxj] at hy; cases hy
    rw [hxj] at hy
    injection hy with hy
    rw [← hy]; rfl)) (World.block_lt_of_cell? _ _ (hcell 0 _ rfl)) (by rw [hlen]; omega) (by rw [hlen]; exact hnc) (by
    rw [hm]; show (Lib.join (x :: r) [32]).length ≤ _; rw [lib_join]; omega)
  rw [hm, hlen] at h
  rw [show Lib.join (x :: r) (⟨#[32]⟩ : ByteArray).data.toList = joinL (x :: r) from lib_join _] at h
  exact h.mono fun e w' hh => ⟨hh.1, Ext.of_below hh.2⟩
 obtain ⟨A, c, rfl, hjn⟩ := hjn
 obtain ⟨n, hn⟩ : ∃ n, ws.length = n := ⟨_, rfl⟩
 obtain ⟨z, hz⟩ : ∃ z, bA (joinL ws) = z := ⟨_, rfl⟩
 rw [hn, hz] at hjn
 rw [hn, hz]
 clear hs hn hz hl hj
 go_enter Tryz.func34, Tryz.ntmps34
 go_wp2_with (go_at_call 57; refine hjn.mono ?_; rintro e w3 ⟨rfl, hE3⟩)
 go_ret
 exact ⟨rfl, hE3⟩
set_option maxRecDepth 100000 in
set_option maxHeartbeats 1000000 in
theorem s_wvalue (W : World) (hg : Glb W) (wb : Nat) (P : Nat → Prop) (ws : List (List UInt8)) (v : AVal) (hn : v.num < 18446744073709551616) (ht : v.text.size ≤ 100000) (h : WrM W wb P ws) (hP : ∀ g, W.heap.size ≤ g → P g) (hPw : ∀ g, P g → wb < g) (hl : ws.length ≤ 1000) :
  Calls Tryz.prog 56 #[.pointer (some ⟨wb, 0, none⟩), .agg #[.int .i64 v.kind, .float .f64 v.num, .string v.text]] W (WwOut W wb P (ws ++ [valW v])) := by
 have hvt := fun W' hW' => v_Text v W' hW' hn ht
 unfold TextOut at hvt
 obtain ⟨c, hc⟩ : ∃ c, chk v = c := ⟨_, rfl⟩
 have hvw : bA (valW v) = if c = 0 then bA (textV v) else ⟨#[63]⟩ := by
  unfold valW; rw [hc]; split <;> rfl
 obtain ⟨s0, hs0⟩ : ∃ s0, (if c = 0 then bA (textV v) else (⟨#[]⟩ : ByteArray)) = s0 := ⟨_, rfl⟩
 rw [hc] at hvt
 simp only [hs0] at hvt
 have hww := fun W' (h' : WrM W' wb P ws) hP' => s_wword W' wb P ws (valW v) h' hP' hPw hl
 obtain ⟨k, x, t⟩ := v
 simp only at hvt ⊢
 have Hvt := Lib.hid hvt
 have Hww := Lib.hid hww
 have Hvw := Lib.hid hvw
 have Hs0 := Lib.hid hs0
 have H := Lib.hid h
 have Hg := Lib.hid hg
 have HP := Lib.hid hP
 have HPw := Lib.hid hPw
 clear hvt hww hvw hs0 h hg hc hn ht hP hPw
 go_enter Tryz.func56, Tryz.ntmps56
 go_wp2_with fail
 obtain ⟨W2, hW2⟩ : ∃ W2, W.alloc (.cells #[.int .i64 k, .float .f64 x, .string t] 24) = W2 := ⟨_, rfl⟩
 have hE2 : Ext W W2 := hW2 ▸ ((Mod.refl _ W).alloc _)
 rw [hW2]
 clear hW2
 refine (Hvt.out W2 (Hg.out.ext hE2)).mono ?_
 rintro e w3 ⟨rfl, hE3⟩
 have HE := Lib.hid (hE2.ext hE3)
 have hsz := HE.out.size
 have hi := Hww.out w3 (H.out.ext HE.out) (fun g hg => HP.out g (Nat.le_trans hsz hg))
 rw [Hvw.out] at hi
 clear hE2 hE3
 by_cases h0 : c = 0
 · subst h0
   have e := Hs0.out
   rw [if_pos rfl] at hi e
   rw [e] at hi
   clear e
   go_wp2_with (go_at_call 30; refine hi.mono ?_; rintro e w4 ⟨rfl, hW4, hM4⟩)
   go_end0
   exact ⟨rfl, hW4, (Ext.mod HE.out _).self hM4⟩
 have d0 : (c != 0) = true := by simpa using h0
 rw [if_neg h0] at hi
 clear h0
 go_wp2_with (go_at_call 30; refine hi.mono ?_; rintro e w4 ⟨rfl, hW4, hM4⟩)
 go_end0
 exact ⟨rfl, hW4, (Ext.mod HE.out _).self hM4⟩
set_option maxRecDepth 100000 in
set_option maxHeartbeats 1000000 in
theorem s_wraw (W : World) (wb : Nat) (P T : Nat → Prop) (ws : List (List UInt8)) (bv : Value) (bs : List UInt8) (hb : Byt W T bv bs) (hbl : bs.length ≤ 100000) (h : WrM W wb P ws) (hP : ∀ g, W.heap.size ≤ g → P g) (hPw : ∀ g, P g → wb < g) (hl : ws.length ≤ 1000) :
  Calls Tryz.prog 32 #[.pointer (some ⟨wb, 0, none⟩), bv] W (WwOut W wb P (ws ++ [rawW bs])) := by
 have hcb := conv_bs hb
 obtain ⟨A, c, rfl⟩ : ∃ A c, bv = .slice A bs.length c := by obtain ⟨_, A, c, e, _⟩ := hb; exact ⟨A, c, e⟩
 obtain ⟨n, hn⟩ : ∃ n, bs.length = n := ⟨_, rfl⟩
 have hww := fun W' (h' : WrM W' wb P ws) hP' => s_wword W' wb P ws (rawW bs) h' hP' hPw hl
 rw [hn] at hcb ⊢
 rcases n with _ | n
 · obtain rfl : bs = [] := List.eq_nil_of_length_eq_zero hn
   have hi := hww W h hP
   have hi' : Calls Tryz.prog 30 #[.pointer (some ⟨wb, 0, none⟩), .string ⟨#[45]⟩] W (WwOut W wb P (ws ++ [rawW []])) := hi
   clear hi hb h hP hPw hww hn hbl hcb
   go_enter Tryz.func32, Tryz.ntmps32
   go_wp2_with (go_at_call 30; refine hi'.mono ?_; rintro e w4 ⟨rfl, hW4, hM4⟩)
   go_end0
   exact ⟨rfl, hW4, hM4⟩
 have hrw : rawW bs = hexB bs := by unfold rawW; exact if_neg (fun e => by rw [e] at hn; simp at hn)
 obtain ⟨z, hz⟩ : ∃ z : ByteArray, (⟨bs.toArray⟩ : ByteArray) = z := ⟨_, rfl⟩
 have hzb : bsOf z = bs := by rw [← hz]
 have hzs : z.size ≤ 100000 := by rw [← hz]; show bs.length ≤ 100000; exact hbl
 have hhx := s_hex z W hzs
 rw [hzb, ← hrw] at hhx
 rw [hz] at hcb
 have H := Lib.hid h
 have Hww := Lib.hid hww
 have HP := Lib.hid hP
 have dn : (((n + 1 : Nat) : Int) == 0) = false := by simp; omega
 clear h hww hP hb hn hbl hrw hz hzb hzs hPw
 go_enter Tryz.func32, Tryz.ntmps32
 go_wp2_with (go_at_call 55; refine hhx.mono ?_; rintro e w3 ⟨rfl, hE3⟩)
 have hsz := hE3.size
 have hi := Hww.out w3 (H.out.ext hE3) (fun g hg => HP.out g (Nat.le_trans hsz hg))
 refine hi.mono ?_
 rintro e w4 ⟨rfl, hW4, hM4⟩
 have HW4 := Lib.hid hW4
 have HM4 := Lib.hid ((Ext.mod hE3 _).self hM4)
 clear hi hW4 hM4 hE3
 go_wp2
 go_end0
 exact ⟨rfl, HW4.out, HM4.out⟩
end Go.Proofs.YtmebipnljkopgaaGreatDoor
