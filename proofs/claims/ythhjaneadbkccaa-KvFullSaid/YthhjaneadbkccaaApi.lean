/-
  The program's plain data (package api) as Lean structures, and their cells. No program is walked here. Conditions: none.
-/
import Derived.Test.YthhjaneadbkccaaPackSpec
namespace Go.Proofs.Ythhjaneadbkccaa

structure AVal where
  kind : Int
  num : Nat
  text : ByteArray
structure ACmd where
  kind : Int
  key : ByteArray
  old : AVal
  val : AVal
structure ACall where
  client : Int
  seq : Int
  cmd : ACmd
structure AConf where
  full : Int
  wit : Int
  learn : Int
  learnWit : Int
structure AEntry where
  term : Int
  kind : Int
  call : ACall
  conf : AConf

abbrev AVal.cells (v : AVal) : List Value := [.int .i64 v.kind, .float .f64 v.num, .string v.text]
abbrev ACmd.cells (c : ACmd) : List Value := [.int .i64 c.kind, .string c.key, .int .i64 c.old.kind, .float .f64 c.old.num, .string c.old.text, .int .i64 c.val.kind, .float .f64 c.val.num, .string c.val.text]
abbrev ACall.cells (c : ACall) : List Value := [.int .i64 c.client, .int .i64 c.seq, .int .i64 c.cmd.kind, .string c.cmd.key, .int .i64 c.cmd.old.kind, .float .f64 c.cmd.old.num, .string c.cmd.old.text, .int .i64 c.cmd.val.kind, .float .f64 c.cmd.val.num, .string c.cmd.val.text]
abbrev AConf.cells (c : AConf) : List Value := [.int .i64 c.full, .int .i64 c.wit, .int .i64 c.learn, .int .i64 c.learnWit]
abbrev AEntry.cells (x : AEntry) : List Value := [.int .i64 x.term, .int .i64 x.kind, .int .i64 x.call.client, .int .i64 x.call.seq, .int .i64 x.call.cmd.kind, .string x.call.cmd.key, .int .i64 x.call.cmd.old.kind, .float .f64 x.call.cmd.old.num, .string x.call.cmd.old.text, .int .i64 x.call.cmd.val.kind, .float .f64 x.call.cmd.val.num, .string x.call.cmd.val.text, .int .i64 x.conf.full, .int .i64 x.conf.wit, .int .i64 x.conf.learn, .int .i64 x.conf.learnWit]

/-- An int of 64 bits. -/
def I64 (n : Int) : Prop := -9223372036854775808 ≤ n ∧ n ≤ 9223372036854775807
def AVal.ok (v : AVal) : Prop := I64 v.kind ∧ v.num < 18446744073709551616 ∧ v.text.size ≤ maxLen
def ACmd.ok (c : ACmd) : Prop := I64 c.kind ∧ c.key.size ≤ maxLen ∧ c.old.ok ∧ c.val.ok
def ACall.ok (c : ACall) : Prop := I64 c.client ∧ I64 c.seq ∧ c.cmd.ok
def AConf.ok (c : AConf) : Prop := I64 c.full ∧ I64 c.wit ∧ I64 c.learn ∧ I64 c.learnWit
def AEntry.ok (x : AEntry) : Prop := I64 x.term ∧ I64 x.kind ∧ x.call.ok ∧ x.conf.ok

/-- The bytes of a text. -/
abbrev bsOf (s : ByteArray) : List UInt8 := s.data.toList
theorem bsOf_inj {a b : ByteArray} (h : bsOf a = bsOf b) : a = b := by
  cases a; cases b; simp [bsOf] at h; simp [h]
def AVal.zero : AVal := ⟨0, 0, ⟨#[]⟩⟩
def ACmd.zero : ACmd := ⟨0, ⟨#[]⟩, AVal.zero, AVal.zero⟩
def ACall.zero : ACall := ⟨0, 0, ACmd.zero⟩
def AConf.zero : AConf := ⟨0, 0, 0, 0⟩
end Go.Proofs.Ythhjaneadbkccaa
