/-
 The contract of the page's Order (layer 25): it answers as hist.Order does. Conditions: as each theorem names them.
-/
import Derived.Test.YtbclnghbgoblcaaGreatHisRef
import Derived.Test.YtbclnghbgoblcaaGreatHisOrder
namespace Go.Proofs.YtbclnghbgoblcaaGreat
set_option linter.unusedSimpArgs false
open Go.RowKit

def toldE (l : List AEntry) (x : AEvent) : Bool := x.ask || toldP l x.told
/-- The page's second half: pre stands ahead. -/
def refQ (l : List AEntry) : List AEvent → List AEvent → Bool
 | _, [] => true
 | pre, b :: r => (!b.ask || pre.all (fun y => y.ask || freeB l (pointP l y.told) b.told.call r)) && refQ l (pre ++ [b]) r
def clrQ (l : List AEntry) : List AEvent → Bool
 | [] => true
 | a :: r => (a.ask || clearB l (pointP l a.told) r) && clrQ l r
theorem all_split {α : Type} (p q r : α → Bool) : ∀ l : List α, (l.all fun y => p y || (q y && r y)) = ((l.all fun y => p y || q y) && l.all fun y => p y || r y) := by
 intro l
 induction l with
 | nil => rfl
 | cons a l ih =>
  rw [List.all_cons, List.all_cons, List.all_cons, ih]
  cases p a <;> cases q a <;> cases r a <;> simp
theorem all_pull {α : Type} (p q : α → Bool) (c : Bool) (l : List α) : (l.all fun y => p y || (!c || q y)) = (!c || l.all fun y => p y || q y) := by
 cases c
 ·
  simp
 ·
  simp
theorem refQ_clr (l : List AEntry) : ∀ (r pre : List AEvent), refQ l pre r = ((pre.all fun y => y.ask || clearB l (pointP l y.told) r) && clrQ l r) := by
 intro r
 induction r with
 | nil => intro pre; simp [refQ, clrQ, clearB]
 | cons b r ih =>
  intro pre
  rw [refQ, ih, clrQ, List.all_append]
  have e : (pre.all fun y => y.ask || clearB l (pointP l y.told) (b :: r)) = ((!b.ask || pre.all fun y => y.ask || freeB l (pointP l y.told) b.told.call r) && pre.all fun y => y.ask || clearB l (pointP l y.told) r) := by
   rw [← all_pull, ← all_split]
   rfl
  rw [e]
  simp only [List.all_cons, List.all_nil, Bool.and_true]
  generalize (!b.ask || pre.all fun y => y.ask || freeB l (pointP l y.told) b.told.call r) = X
  generalize (pre.all fun y => y.ask || clearB l (pointP l y.told) r) = Y
  generalize (b.ask || clearB l (pointP l b.told) r) = Z
  cases X <;> cases Y <;> cases Z <;> simp
theorem order_clr (l : List AEntry) : ∀ h : List AEvent, orderB l h = (h.all (toldE l) && clrQ l h) := by
 intro h
 induction h with
 | nil => rfl
 | cons a r ih =>
  rw [orderB, ih, List.all_cons, clrQ]
  unfold toldE
  cases a.ask <;> cases toldP l a.told <;> cases clearB l (pointP l a.told) r <;> cases (r.all fun x => x.ask || toldP l x.told) <;> simp
theorem order_ref (l : List AEntry) (h : List AEvent) : orderB l h = (h.all (toldE l) && refQ l [] h) := by
 rw [refQ_clr, order_clr]
 simp
theorem all_take_step {α : Type} {p : α → Bool} {l : List α} {i : Nat} {x : α} (h : (l.take i).all p = true) (hx : l[i]? = some x) (e : p x = true) : (l.take (i + 1)).all p = true := by
 obtain ⟨hi, rfl⟩ := List.getElem?_eq_some_iff.1 hx
 rw [List.take_succ_eq_append_getElem hi, List.all_append, h]; simp [e]
theorem all_no {α : Type} {p : α → Bool} {l : List α} {i : Nat} {x : α} (hx : l[i]? = some x) (e : p x = false) : l.all p = false := by
 rw [← Bool.not_eq_true, List.all_eq_true]
 intro h
 rw [h x (List.mem_of_getElem? hx)] at e
 cases e
theorem take_snoc' {α : Type} {l : List α} {i : Nat} {x : α} (hx : l[i]? = some x) : l.take (i + 1) = l.take i ++ [x] := by
 obtain ⟨hi, rfl⟩ := List.getElem?_eq_some_iff.1 hx
 rw [List.take_succ_eq_append_getElem hi]
theorem at_told {w : World} {g o : Nat} {x : AEvent} (h : At w g o x.cells) : At w g (o + 1) x.told.cells := h.sub 1 (fun j u hu => by rw [Nat.add_comm]; exact hu)
theorem Evs.at2 {w : World} {T : Nat → Prop} {g off n c : Nat} {l : List AEvent} (h : Evs w T (.slice (some ⟨g, off, none⟩) n c) l) {i : Nat} (hi : i < n) : ∃ x, l[i]? = some x ∧ x.ok ∧ At w g (off + i * 16) x.cells := by
 obtain ⟨g', off', x, hA, _, hx, hok, hc⟩ := h.at hi
 injection hA with hA
 injection hA with h1 h2
 subst h1; subst h2
 exact ⟨x, hx, hok, hc⟩

set_option maxRecDepth 100000 in
set_option maxHeartbeats 8000000 in
theorem r25_order_a (w : World) (T U : Nat → Prop) (A B : Option Addr) (n cc N cb : Nat) (l : List AEntry) (h : List AEvent) (hC : Ents w T (.slice A n cc) l) (hn : l.length = n) (hV : Evs w U (.slice B N cb) h) (hN : h.length = N) :
  Calls Tryz.prog 18 #[.slice A n cc, .slice B N cb] w fun e w' => e = .returned (.bool (orderB l h)) ∧ Ext w w' := by
 have hl := hV.1.le
 rw [hN] at hl
 unfold maxLen at hl
 have HO : Hid (orderB l h = (h.all (toldE l) && refQ l [] h)) := Lib.hid (order_ref l h)
 have HC := Lib.hid hC
 have HV := Lib.hid hV
 have HN := Lib.hid hN
 have Hn := Lib.hid hn
 clear hC hV hN hn
 go_enter Tryz.func18, Tryz.ntmps18
 go_wp2
 go_loopw [5] (fun iv wr => ∃ i : Nat, i ≤ N ∧ iv = .int .i64 i ∧ Ext w wr ∧ (h.take i).all (toldE l) = true) (fun iv _ => N - (intOf iv).toNat)
 case atStart => exact ⟨0, by omega, rfl, Mod.refl _ w, by simp⟩
 case round =>
  obtain ⟨i, hin, rfl, hEr, ho⟩ := hrel
  have Ho := Lib.hid ho
  have HEr := Lib.hid hEr
  clear ho hEr
  by_cases hi : i < N
  case pos =>
   obtain ⟨g, off, x, rfl, hgT, hx, hxok, hcells⟩ := (HV.out.ext HEr.out).at hi
   have hi0 : (0 : Int) ≤ (i : Int) := by omega
   have hi1 : (i : Int) < (N : Int) := by omega
   have Hx := Lib.hid hx
   have Hxok := Lib.hid hxok
   have x0 : wr.cell? ⟨g, off + i * 16, none⟩ = some _ := hcells 0 _ rfl
   have hld := load_told x.told (at_told (x := x) hcells)
   clear hcells hx hxok hgT
   rcases ha : x.ask with _ | _
   ·
    rw [ha] at x0
    go_wp2_with (refine wpList_loadW rfl 48 _ rfl _ _ rfl hld ?_)
    refine (r25_told wr T _ l x.told (HC.out.ext HEr.out) Hxok.out).mono ?_
    rintro e w2 ⟨rfl, hE2⟩
    have HE2 := Lib.hid (HEr.out.ext hE2)
    clear hld hE2 x0
    rcases ht : toldP l x.told with _ | _
    ·
     have Hf : Hid (orderB l h = false) := Lib.hid (by rw [HO.out, all_no Hx.out (by unfold toldE; rw [ha, ht]; rfl)]; rfl)
     go_wp2
     go_ret
     exact ⟨ret_bool Hf.out.symm, HE2.out⟩
    ·
     have Ht : Hid (toldE l x = true) := Lib.hid (by unfold toldE; rw [ht]; simp)
     go_wp2
     exact ⟨⟨i + 1, by omega, by go_num, HE2.out, all_take_step Ho.out Hx.out Ht.out⟩, by simp [intOf]; omega⟩
   ·
    rw [ha] at x0
    have Ht : Hid (toldE l x = true) := Lib.hid (by unfold toldE; rw [ha]; rfl)
    clear hld
    go_wp2
    exact ⟨⟨i + 1, by omega, by go_num, HEr.out, all_take_step Ho.out Hx.out Ht.out⟩, by simp [intOf]; omega⟩
  have HO2 : Hid (orderB l h = refQ l [] h) := Lib.hid (by
   have := Ho.out
   rw [List.take_of_length_le (by rw [HN.out]; omega)] at this
   rw [HO.out, this]
   rfl)
  obtain ⟨ws, rfl⟩ : ∃ ws : World, ws = wr := ⟨_, rfl⟩
  have HEs := HEr
  clear Ho HEr
  go_wp2_with fail
  clear hi hin
  go_loopw [6] (fun iv wr => ∃ i : Nat, i ≤ N ∧ iv = .int .i64 i ∧ Ext w wr ∧ orderB l h = refQ l (h.take i) (h.drop i)) (fun iv _ => N - (intOf iv).toNat)
  case atStart => exact ⟨0, by omega, rfl, HEs.out, by rw [HO2.out]; simp⟩
  case round =>
   clear HO2 HEs
   obtain ⟨i, hin, rfl, hEr, ho⟩ := hrel
   have Ho := Lib.hid ho
   have HEr := Lib.hid hEr
   clear ho hEr
   by_cases hi : i < N
   case neg =>
    have Hf : Hid (orderB l h = true) := Lib.hid (by rw [Ho.out, List.drop_eq_nil_of_le (by rw [HN.out]; omega)]; rfl)
    go_wp2
    go_ret
    exact ⟨ret_bool Hf.out.symm, HEr.out⟩
   obtain ⟨g, off, x, rfl, hgT, hx, hxok, hcells⟩ := (HV.out.ext HEr.out).at hi
   have hi0 : (0 : Int) ≤ (i : Int) := by omega
   have hi1 : (i : Int) < (N : Int) := by omega
   have Hx := Lib.hid hx
   have x0 : wr.cell? ⟨g, off + i * 16, none⟩ = some _ := hcells 0 _ rfl
   have Hq : Hid (orderB l h = ((!x.ask || (h.take i).all (fun y => y.ask || freeB l (pointP l y.told) x.told.call (h.drop (i + 1)))) && refQ l (h.take (i + 1)) (h.drop (i + 1)))) := Lib.hid (by
    rw [Ho.out, drop_get hx, refQ, take_snoc' hx])
   clear hcells hx hxok hgT Ho
   rcases ha : x.ask with _ | _
   ·
    rw [ha] at x0
    have Hs : Hid (orderB l h = refQ l (h.take (i + 1)) (h.drop (i + 1))) := Lib.hid (by rw [Hq.out, ha]; rfl)
    go_wp2
    exact ⟨⟨i + 1, by omega, by go_num, HEr.out, Hs.out⟩, by simp [intOf]; omega⟩
   rw [ha] at x0
   have Ha := Lib.hid ha
   have Hq2 : Hid (orderB l h = ((h.take i).all (fun y => y.ask || freeB l (pointP l y.told) x.told.call (h.drop (i + 1))) && refQ l (h.take (i + 1)) (h.drop (i + 1)))) := Lib.hid (by rw [Hq.out, ha]; rfl)
   obtain ⟨wo, rfl⟩ : ∃ wo : World, wo = wr := ⟨_, rfl⟩
   clear Hq ha
   go_wp2_with fail
   clear x0
   go_loopw [7] (fun kv wr => ∃ k : Nat, i + 1 ≤ k ∧ k ≤ N ∧ kv = .int .i64 k ∧ Ext w wr ∧ tellP (h.drop (i + 1)) x.told.call = tellP (h.drop k) x.told.call) (fun kv _ => N - (intOf kv).toNat)
   case atStart => exact ⟨i + 1, by omega, by omega, by go_num, HEr.out, rfl⟩
   case round =>
    clear HEr
    obtain ⟨k, hk1, hkN, rfl, hEk, hte⟩ := hrel
    have Hte := Lib.hid hte
    have HEk := Lib.hid hEk
    clear hte hEk
    obtain ⟨x', hx', _, hcx⟩ := (HV.out.ext HEk.out).at2 hi
    obtain rfl : x = x' := by have := Hx.out; rw [hx'] at this; injection this with this; exact this.symm
    have c1 : wr.cell? ⟨g, off + i * 16 + 1, none⟩ = some _ := hcx 1 _ rfl
    have c2 : wr.cell? ⟨g, off + i * 16 + 2, none⟩ = some _ := hcx 2 _ rfl
    have c2' : wr.cell? ⟨g, off + i * 16 + 1 + 1, none⟩ = some _ := c2
    have k0 : (0 : Int) ≤ (k : Int) := by omega
    clear hcx hx'
    by_cases hkl : k < N
    case pos =>
     obtain ⟨y, hy, hyok, hcy⟩ := (HV.out.ext HEk.out).at2 hkl
     have d0 : decide ((k : Int) < (N : Int)) = true := by simp; omega
     have e0 : wr.cell? ⟨g, off + k * 16, none⟩ = some _ := hcy 0 _ rfl
     have e1 : wr.cell? ⟨g, off + k * 16 + 1, none⟩ = some _ := hcy 1 _ rfl
     have e2 : wr.cell? ⟨g, off + k * 16 + 1 + 1, none⟩ = some _ := hcy 2 _ rfl
     have Hy := Lib.hid hy
     have Hyok := Lib.hid hyok
     have Htd : Hid (tellP (h.drop k) x.told.call = if tellsB x.told.call y then some y.told else tellP (h.drop (k + 1)) x.told.call) := Lib.hid (tellP_drop hy)
     have k1 : (k : Int) < (N : Int) := by omega
     clear hcy hy hyok
     rcases hb : y.ask with _ | _
     case true =>
      rw [hb] at e0
      have Hs : Hid (tellP (h.drop (i + 1)) x.told.call = tellP (h.drop (k + 1)) x.told.call) := Lib.hid (by rw [Hte.out, Htd.out]; unfold tellsB; rw [hb]; simp)
      go_wp2
      go_quiet (fail)
      go_wp2
      exact ⟨⟨k + 1, by omega, by omega, by go_num, HEk.out.drewN _, Hs.out⟩, by simp [intOf]; omega⟩
     rw [hb] at e0
     rcases hcl : (y.told.call.client == x.told.call.client) with _ | _
     case false =>
      have dn : (y.told.call.client != x.told.call.client) = true := by simpa using hcl
      have Hs : Hid (tellP (h.drop (i + 1)) x.told.call = tellP (h.drop (k + 1)) x.told.call) := Lib.hid (by rw [Hte.out, Htd.out]; unfold tellsB; rw [hcl]; simp)
      go_wp2
      go_quiet (fail)
      go_wp2
      exact ⟨⟨k + 1, by omega, by omega, by go_num, HEk.out.drewN _, Hs.out⟩, by simp [intOf]; omega⟩
     have dn : (y.told.call.client != x.told.call.client) = false := by simpa using hcl
     rcases hsq : (y.told.call.seq == x.told.call.seq) with _ | _
     case false =>
      have dm : (y.told.call.seq != x.told.call.seq) = true := by simpa using hsq
      have Hs : Hid (tellP (h.drop (i + 1)) x.told.call = tellP (h.drop (k + 1)) x.told.call) := Lib.hid (by rw [Hte.out, Htd.out]; unfold tellsB; rw [hsq]; simp)
      go_wp2
      go_quiet (fail)
      go_wp2
      exact ⟨⟨k + 1, by omega, by omega, by go_num, HEk.out.drewN _, Hs.out⟩, by simp [intOf]; omega⟩
     have dm : (y.told.call.seq != x.told.call.seq) = false := by simpa using hsq
     have Hot : Hid (tellP (h.drop (i + 1)) x.told.call = some y.told) := Lib.hid (by rw [Hte.out, Htd.out]; unfold tellsB; rw [hb, hcl, hsq]; rfl)
     have dk : ((k : Int) == (N : Int)) = false := by simp; omega
     clear hb hcl hsq
     go_wp2
     go_quiet (fail)
     go_upto_region 13 with fail
     obtain ⟨wq, hwq⟩ : ∃ wq, wr.drewN nq = wq := ⟨_, rfl⟩
     have HEq : Hid (Ext w wq) := Lib.hid (by rw [← hwq]; exact HEk.out.drewN _)
     rw [hwq]
     clear hwq HEk c1 c2 c2' e0 e1 e2 dn dm Hte Htd d0
     obtain ⟨y', hy', _, hcy⟩ := (HV.out.ext HEq.out).at2 hkl
     obtain rfl : y = y' := by have := Hy.out; rw [hy'] at this; injection this with this; exact this.symm
     have hld := load_told y.told (at_told (x := y) hcy)
     clear hcy hy'
     go_wp2_with (refine wpList_load rfl 48 _ rfl _ _ rfl hld ?_)
     refine (r25_point wq T A n cc l y.told (HC.out.ext HEq.out) Hn.out).mono ?_
     rintro e w3 ⟨rfl, hE3⟩
     obtain ⟨pb, hpb⟩ : ∃ pb, pointP l y.told = pb := ⟨_, rfl⟩
     rw [hpb]
     have Hpb := Lib.hid hpb
     have HE3 := Lib.hid (HEq.out.ext hE3)
     have Hfr : Hid (∀ a, freeB l a x.told.call (h.drop (i + 1)) = !(decide (pb < a) || a == pb && y.told.call.cmd.kind != 1)) := Lib.hid (fun a => by unfold freeB; rw [Hot.out]; simp only; rw [Hpb.out])
     clear hld hpb hE3 HEq
     go_wp2_with fail
     go_loopw [9] (fun jv wr => ∃ j : Nat, j ≤ i ∧ jv = .int .i64 j ∧ Ext w wr ∧ (h.take j).all (fun y => y.ask || freeB l (pointP l y.told) x.told.call (h.drop (i + 1))) = true) (fun jv _ => i - (intOf jv).toNat)
     case atStart => exact ⟨0, by omega, rfl, HE3.out, by simp⟩
     case round =>
      clear HE3
      obtain ⟨j, hji, rfl, hEj, hal⟩ := hrel
      have Hal := Lib.hid hal
      have HEj := Lib.hid hEj
      clear hal hEj
      by_cases hj : j < i
      case neg =>
       have Hs : Hid (orderB l h = refQ l (h.take (i + 1)) (h.drop (i + 1))) := Lib.hid (by
        have := Hal.out
        rw [show j = i by omega] at this
        rw [Hq2.out, this]
        rfl)
       go_wp2
       exact ⟨⟨i + 1, by omega, by go_num, HEj.out, Hs.out⟩, by simp [intOf]; omega⟩
      have hj0 : (0 : Int) ≤ (j : Int) := by omega
      have hj1 : (j : Int) < (N : Int) := by omega
      obtain ⟨z, hz, hzok, hcz⟩ := (HV.out.ext HEj.out).at2 (i := j) (by omega)
      have z0 : wr.cell? ⟨g, off + j * 16, none⟩ = some _ := hcz 0 _ rfl
      have Hz : Hid ((h.take i)[j]? = some z) := Lib.hid (by rw [List.getElem?_take, if_pos hj]; exact hz)
      have Hz2 := Lib.hid hz
      have hld := load_told z.told (at_told (x := z) hcz)
      clear hz hzok hcz
      rcases hza : z.ask with _ | _
      case true =>
       rw [hza] at z0
       have Hs : Hid ((h.take (j + 1)).all (fun y => y.ask || freeB l (pointP l y.told) x.told.call (h.drop (i + 1))) = true) := Lib.hid (all_take_step Hal.out Hz2.out (by rw [hza]; rfl))
       clear hld
       go_wp2
       exact ⟨⟨j + 1, by omega, by go_num, HEj.out, Hs.out⟩, by simp [intOf]; omega⟩
      rw [hza] at z0
      have Hza := Lib.hid hza
      clear hza
      go_wp2_with (refine wpList_load rfl 48 _ rfl _ _ rfl hld ?_)
      refine (r25_point wr T A n cc l z.told (HC.out.ext HEj.out) Hn.out).mono ?_
      rintro e w4 ⟨rfl, hE4⟩
      obtain ⟨pa, hpa⟩ : ∃ pa, pointP l z.told = pa := ⟨_, rfl⟩
      rw [hpa]
      have Hpa := Lib.hid hpa
      have HE4 := Lib.hid (HEj.out.ext hE4)
      have Hno : Hid ((decide (pb < pa) || pa == pb && y.told.call.cmd.kind != 1) = true → orderB l h = false) := Lib.hid (fun e => by
       rw [Hq2.out, all_no Hz.out (by rw [Hza.out, Hpa.out, Hfr.out, e]; rfl)]
       rfl)
      have Hok : Hid ((decide (pb < pa) || pa == pb && y.told.call.cmd.kind != 1) = false → (h.take (j + 1)).all (fun y => y.ask || freeB l (pointP l y.told) x.told.call (h.drop (i + 1))) = true) := Lib.hid (fun e => all_take_step Hal.out Hz2.out (by rw [Hpa.out, Hfr.out, e]; simp))
      obtain ⟨y', hy', _, hcy⟩ := (HV.out.ext HE4.out).at2 hkl
      obtain rfl : y = y' := by have := Hy.out; rw [hy'] at this; injection this with this; exact this.symm
      have y3 : w4.cell? ⟨g, off + k * 16 + 1 + 2, none⟩ = some _ := hcy 3 _ rfl
      clear hld hpa hE4 hcy hy' z0
      by_cases hgt : pb < pa
      case pos =>
       have dg : decide (pa > pb) = true := by simp [hgt]
       have Hf := Lib.hid (Hno.out (by simp [hgt]))
       clear hgt
       go_wp2
       go_ret
       exact ⟨ret_bool Hf.out.symm, HE4.out⟩
      have dg : decide (pa > pb) = false := by simp; omega
      have Hgt := Lib.hid hgt
      clear hgt
      rcases heq : (pa == pb) with _ | _
      ·
       have Hf := Lib.hid (Hok.out (by rw [heq]; simp [Hgt.out]))
       go_wp2
       exact ⟨⟨j + 1, by omega, by go_num, HE4.out, Hf.out⟩, by simp [intOf]; omega⟩
      rcases hkk : (y.told.call.cmd.kind != 1) with _ | _
      ·
       have Hf := Lib.hid (Hok.out (by rw [hkk]; simp [Hgt.out]))
       go_wp2
       exact ⟨⟨j + 1, by omega, by go_num, HE4.out, Hf.out⟩, by simp [intOf]; omega⟩
      ·
       have Hf := Lib.hid (Hno.out (by rw [heq, hkk]; simp))
       go_wp2
       go_ret
       exact ⟨ret_bool Hf.out.symm, HE4.out⟩
    have d0 : decide ((k : Int) < (N : Int)) = false := by simp; omega
    have dk : ((k : Int) == (N : Int)) = true := by simp; omega
    have Hs : Hid (orderB l h = refQ l (h.take (i + 1)) (h.drop (i + 1))) := Lib.hid (by
     have hnone : tellP (h.drop (i + 1)) x.told.call = none := by rw [Hte.out, List.drop_eq_nil_of_le (by rw [HN.out]; omega)]; rfl
     rw [Hq2.out]
     unfold freeB
     rw [hnone]
     simp)
    go_wp2
    go_quiet (fail)
    go_wp2
    exact ⟨⟨i + 1, by omega, by go_num, HEk.out.drewN _, Hs.out⟩, by simp [intOf]; omega⟩
theorem r25_order (w : World) (T U : Nat → Prop) (v1 v2 : Value) (l : List AEntry) (h : List AEvent) (hC : Ents w T v1 l) (hV : Evs w U v2 h) :
  Calls Tryz.prog 18 #[v1, v2] w fun e w' => e = .returned (.bool (orderB l h)) ∧ Ext w w' := by
 obtain ⟨A, cc, rfl⟩ := hC.form
 obtain ⟨B, cb, rfl⟩ := hV.form
 exact r25_order_a w T U A B _ cc _ cb l h hC rfl hV rfl
end Go.Proofs.YtbclnghbgoblcaaGreat
