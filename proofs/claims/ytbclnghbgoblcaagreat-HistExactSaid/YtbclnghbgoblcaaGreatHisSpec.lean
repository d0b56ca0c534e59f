/-
 Plain functions: histories, what a log tells, whether there is one order; lists of events in memory. No program is walked here. Conditions: as each theorem names them.
-/
import Derived.Test.YtbclnghbgoblcaaGreatHisPl
import Derived.Test.YtbclnghbgoblcaaGreatGSesL
import Derived.Test.YtbclnghbgoblcaaGreatSesLib
namespace Go.Proofs.YtbclnghbgoblcaaGreat
set_option linter.unusedSimpArgs false

structure ATold where
 call : ACall
 reply : AReply
 index : Int
structure AEvent where
 ask : Bool
 told : ATold
abbrev ATold.cells (x : ATold) : List Value := [.int .i64 x.call.client, .int .i64 x.call.seq, .int .i64 x.call.cmd.kind, .string x.call.cmd.key, .int .i64 x.call.cmd.old.kind, .float .f64 x.call.cmd.old.num, .string x.call.cmd.old.text, .int .i64 x.call.cmd.val.kind, .float .f64 x.call.cmd.val.num, .string x.call.cmd.val.text, .int .i64 x.reply.code, .int .i64 x.reply.val.kind, .float .f64 x.reply.val.num, .string x.reply.val.text, .int .i64 x.index]
abbrev AEvent.cells (x : AEvent) : List Value := [.bool x.ask, .int .i64 x.told.call.client, .int .i64 x.told.call.seq, .int .i64 x.told.call.cmd.kind, .string x.told.call.cmd.key, .int .i64 x.told.call.cmd.old.kind, .float .f64 x.told.call.cmd.old.num, .string x.told.call.cmd.old.text, .int .i64 x.told.call.cmd.val.kind, .float .f64 x.told.call.cmd.val.num, .string x.told.call.cmd.val.text, .int .i64 x.told.reply.code, .int .i64 x.told.reply.val.kind, .float .f64 x.told.reply.val.num, .string x.told.reply.val.text, .int .i64 x.told.index]
def ATold.ok (x : ATold) : Prop := x.call.ok ∧ x.reply.ok ∧ I64 x.index
def AEvent.ok (x : AEvent) : Prop := x.told.ok
def ATold.zero : ATold := ⟨ACall.zero, AReply.zero, 0⟩
/-- A list of events. -/
def Evs (w : World) (T : Nat → Prop) (v : Value) (l : List AEvent) : Prop := Sl w T 16 v l.length (l.flatMap AEvent.cells) ∧ ∀ x ∈ l, x.ok
theorem Evs.mod {w w' : World} {S T : Nat → Prop} {v : Value} {l : List AEvent} (h : Evs w T v l) (hm : Mod S w w') (hd : ∀ g, T g → ¬ S g) : Evs w' T v l := ⟨h.1.mod hm hd, h.2⟩
theorem Evs.ext {w w' : World} {T : Nat → Prop} {v : Value} {l : List AEvent} (h : Evs w T v l) (hm : Ext w w') : Evs w' T v l := h.mod hm (fun _ _ => id)
theorem Evs.form {w : World} {T : Nat → Prop} {v : Value} {l : List AEvent} (h : Evs w T v l) : ∃ A c, v = .slice A l.length c := by
 obtain ⟨⟨_, A, c, e, _⟩, _⟩ := h
 exact ⟨A, c, e⟩
theorem Evs.at {w : World} {T : Nat → Prop} {A : Option Addr} {n c : Nat} {l : List AEvent} (h : Evs w T (.slice A n c) l) {i : Nat} (hi : i < n) :
  ∃ g off x, A = some ⟨g, off, none⟩ ∧ T g ∧ l[i]? = some x ∧ x.ok ∧ ∀ j u, x.cells[j]? = some u → w.cell? ⟨g, off + i * 16 + j, none⟩ = some u := by
 obtain ⟨⟨hl, A', c', e, hn, hc, hx⟩, hf⟩ := h
 injection e with e1 e2 e3; subst e1; subst e2; subst e3
 obtain ⟨g, off, rfl, hT, hcell⟩ := hx (by omega)
 have hget : l[i]? = some l[i] := List.getElem?_eq_getElem hi
 refine ⟨g, off, l[i], rfl, hT, hget, hf _ (List.getElem_mem hi), fun j u hu => ?_⟩
 have hj : j < 16 := (List.getElem?_eq_some_iff.1 hu).1
 rw [Nat.add_assoc]
 exact hcell _ u (by rw [flat_get (k := 16) (fun _ => rfl) l i j _ hget hj]; exact hu)

/-- The machine behind a log's calls. -/
def playE (m : AMach) (x : AEntry) : AMach := if x.kind = 1 then (onceP m x.call).1 else m
def atP (l : List AEntry) (n : Int) : AMach := (l.take n.toNat).foldl playE mach0
theorem atP_right (l : List AEntry) (n : Int) : machB (atP l n) = true := by
 unfold atP
 generalize l.take n.toNat = k
 have : ∀ (k : List AEntry) (m : AMach), machB m = true → machB (k.foldl playE m) = true := by
  intro k
  induction k with
  | nil => intro m h; exact h
  | cons x k ih =>
   intro m h
   refine ih _ ?_
   unfold playE
   split
   ·
    exact once_right x.call h
   ·
    exact h
 exact this k mach0 mach0_right
def toldP (l : List AEntry) (x : ATold) : Bool :=
 if x.call.cmd.kind = 1 then decide (x.index ≤ l.length) && eqReply (doP (atP l x.index).pairs x.call.cmd).2 x.reply
 else match l[placeH l x.call - 1]? with
  | none => false
  | some y => decide (1 ≤ placeH l x.call) && decide ((placeH l x.call : Int) ≤ x.index) && eqCmd y.call.cmd x.call.cmd && ((lastS (atP l (placeH l x.call)).sess x.call.client).1 == x.call.seq && eqReply (lastS (atP l (placeH l x.call)).sess x.call.client).2 x.reply)
def pointP (l : List AEntry) (x : ATold) : Int := if x.call.cmd.kind = 1 then x.index else placeH l x.call
def tellsB (c : ACall) (x : AEvent) : Bool := !x.ask && x.told.call.client == c.client && x.told.call.seq == c.seq
def tellP : List AEvent → ACall → Option ATold
 | [], _ => none
 | x :: l, c => if tellsB c x then some x.told else tellP l c
/-- May what is told at point a stand ahead of the call c that is asked, with the events r behind it? -/
def freeB (l : List AEntry) (a : Int) (c : ACall) (r : List AEvent) : Bool :=
 match tellP r c with
 | none => true
 | some t => !(decide (pointP l t < a) || a == pointP l t && t.call.cmd.kind != 1)
def clearB (l : List AEntry) (a : Int) : List AEvent → Bool
 | [] => true
 | b :: r => (!b.ask || freeB l a b.told.call r) && clearB l a r
def orderB (l : List AEntry) : List AEvent → Bool
 | [] => true
 | a :: r => (a.ask || toldP l a.told && clearB l (pointP l a.told) r) && orderB l r
/-- One event of a history: what each client called last, and whether it waits. -/
def stepH (s : List ACall × List Bool) (x : AEvent) : Option (List ACall × List Bool) :=
 if callE x.told.call ≠ 0 then none
 else if x.ask = s.2.getD x.told.call.client.toNat false then none
 else if x.ask = true ∧ x.told.call.seq ≠ (s.1.getD x.told.call.client.toNat ACall.zero).seq + 1 then none
 else if x.ask = false ∧ (x.told.call.seq ≠ (s.1.getD x.told.call.client.toNat ACall.zero).seq ∨ eqCmd x.told.call.cmd (s.1.getD x.told.call.client.toNat ACall.zero).cmd = false ∨ x.told.index < 0) then none
 else some (s.1.set x.told.call.client.toNat x.told.call, s.2.set x.told.call.client.toNat x.ask)
def runH : List ACall × List Bool → List AEvent → Option (List ACall × List Bool)
 | s, [] => some s
 | s, x :: l => match stepH s x with
  | none => none
  | some s' => runH s' l
def hist0 : List ACall × List Bool := (List.replicate 5 ACall.zero, List.replicate 5 false)
def histB (h : List AEvent) : Bool := (runH hist0 h).isSome
end Go.Proofs.YtbclnghbgoblcaaGreat
