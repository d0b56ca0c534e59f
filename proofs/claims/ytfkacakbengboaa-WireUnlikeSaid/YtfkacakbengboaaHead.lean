/-
  Messages in memory. No program is walked here. Conditions: as each theorem names them.
-/
import Derived.Test.YtfkacakbengboaaEnts
namespace Go.Proofs.Ytfkacakbengboaa

/-- A message but for what is within: 'inn' is how many it has. -/
structure AHead where
  kind : Int
  src : Int
  dst : Int
  term : Int
  index : Int
  logTerm : Int
  commit : Int
  round : Int
  yes : Bool
  entV : Value
  ents : List AEntry
  conf : AConf
  snapV : Value
  snap : List UInt8
  innV : Value
  inn : Nat
abbrev AHead.cells (h : AHead) : List Value := [.int .i64 h.kind, .int .i64 h.src, .int .i64 h.dst, .int .i64 h.term, .int .i64 h.index, .int .i64 h.logTerm, .int .i64 h.commit, .int .i64 h.round, .bool h.yes, h.entV, .int .i64 h.conf.full, .int .i64 h.conf.wit, .int .i64 h.conf.learn, .int .i64 h.conf.learnWit, h.snapV, h.innV]
abbrev AHead.ints (h : AHead) : List Int := [h.kind, h.src, h.dst, h.term, h.index, h.logTerm, h.commit, h.round]
def AHead.ok (w : World) (T : Nat → Prop) (h : AHead) : Prop :=
  (∀ n ∈ h.ints, I64 n) ∧ Ents w T h.entV h.ents ∧ h.conf.ok ∧ Byt w T h.snapV h.snap ∧ (∃ A c, h.innV = .slice A h.inn c) ∧ h.inn ≤ maxLen
theorem AHead.ok.mod {w w' : World} {S T : Nat → Prop} {h : AHead} (k : h.ok w T) (hm : Mod S w w') (hd : ∀ g, T g → ¬ S g) : h.ok w' T :=
  ⟨k.1, k.2.1.mod hm hd, k.2.2.1, k.2.2.2.1.mod hm hd, k.2.2.2.2⟩

theorem headAt {w : World} {T : Nat → Prop} {A : Option Addr} {n c : Nat} {l : List AHead} (h : Sl w T 16 (.slice A n c) n (l.flatMap AHead.cells)) {i : Nat} (hi : i < n) :
    ∃ g off x, A = some ⟨g, off, none⟩ ∧ T g ∧ l[i]? = some x ∧ ∀ j u, x.cells[j]? = some u → w.cell? ⟨g, off + i * 16 + j, none⟩ = some u := by
  obtain ⟨hl, A', c', e, hn, hc, hx⟩ := h
  injection e with e1 e2 e3; subst e1; subst e3
  obtain ⟨g, off, rfl, hT, hcell⟩ := hx (by omega)
  have hll : l.length = n := by rw [flat_len (k := 16) (fun _ => rfl)] at hl; omega
  have hget : l[i]? = some (l[i]'(by omega)) := List.getElem?_eq_getElem (by omega)
  refine ⟨g, off, l[i]'(by omega), rfl, hT, hget, fun j u hu => ?_⟩
  have hj : j < 16 := (List.getElem?_eq_some_iff.1 hu).1
  rw [Nat.add_assoc]
  exact hcell _ u (by rw [flat_get (k := 16) (fun _ => rfl) l i j _ hget hj]; exact hu)


/-- A list of messages, but for what is within. -/
def Heads (w : World) (T : Nat → Prop) (v : Value) (l : List AHead) : Prop := Sl w T 16 v l.length (l.flatMap AHead.cells) ∧ ∀ x ∈ l, x.ok w T
theorem Heads.mod {w w' : World} {S T : Nat → Prop} {v : Value} {l : List AHead} (h : Heads w T v l) (hm : Mod S w w') (hd : ∀ g, T g → ¬ S g) : Heads w' T v l := ⟨h.1.mod hm hd, fun x hx => (h.2 x hx).mod hm hd⟩
theorem Heads.at {w : World} {T : Nat → Prop} {A : Option Addr} {n c : Nat} {l : List AHead} (h : Heads w T (.slice A n c) l) {i : Nat} (hi : i < n) :
    ∃ g off x, A = some ⟨g, off, none⟩ ∧ T g ∧ l[i]? = some x ∧ x.ok w T ∧ ∀ j u, x.cells[j]? = some u → w.cell? ⟨g, off + i * 16 + j, none⟩ = some u := by
  have hl : l.length = n := by obtain ⟨_, _, _, e, _⟩ := h.1; injection e with _ e _; exact e.symm
  have h1 := h.1
  rw [hl] at h1
  obtain ⟨g, off, x, h2, h3, h4, h5⟩ := headAt h1 hi
  exact ⟨g, off, x, h2, h3, h4, h.2 x (List.mem_of_getElem? h4), h5⟩
/-- A message, three deep. -/
def Msg3 (w : World) (T : Nat → Prop) (h : AHead) (ins : List AHead) : Prop := h.ok w T ∧ h.inn = ins.length ∧ Heads w T h.innV ins ∧ ∀ x ∈ ins, ∃ l : List AHead, x.inn = l.length ∧ Heads w T x.innV l
theorem Msg3.mod {w w' : World} {S T : Nat → Prop} {h : AHead} {l : List AHead} (k : Msg3 w T h l) (hm : Mod S w w') (hd : ∀ g, T g → ¬ S g) : Msg3 w' T h l :=
  ⟨k.1.mod hm hd, k.2.1, k.2.2.1.mod hm hd, fun x hx => by obtain ⟨l, h1, h2⟩ := k.2.2.2 x hx; exact ⟨l, h1, h2.mod hm hd⟩⟩
/-- Old cells read as before. -/
theorem bcell {W w1 : World} (hb : Ext W w1) : (∀ b o, b < W.heap.size → w1.cell? ⟨b, o, none⟩ = W.cell? ⟨b, o, none⟩) ∧ (∀ b o, b < W.heap.size → w1.frozen? ⟨b, o, none⟩ = W.frozen? ⟨b, o, none⟩) :=
  ⟨fun b o h => hb.below.cell (p := ⟨b, o, none⟩) h, fun b o h => hb.below.frozen (p := ⟨b, o, none⟩) h⟩
end Go.Proofs.Ytfkacakbengboaa
