/-
 Contracts of package wire's writer. Conditions: as each theorem names them.
-/
import Derived.Lib.ConvBytes
import Derived.Laws.IdiomStrings
import Derived.Test.YtjbkjhhjofeldaaGreatG6
import Derived.Deep.DeepCutAuto
import Derived.Deep.CutBlock
import Derived.Deep.QuietTactic
set_option maxRecDepth 100000
set_option maxHeartbeats 800000
namespace Go.Proofs.YtjbkjhhjofeldaaGreat
open Go.RowKit
attribute [local go_sem] yN xT
def zjK (n:Int):Ending:=.panicked [{ v:=.iface 394 (.agg #[.int .i64 n]),recovered:=false }]
def St (w:World) (S:Nat→Prop) (b:Nat) (bs:List UInt8) (long:Bool):Prop:=Wr w S b bs long∧∀ k,S k→k<w.heap.size
def zn2 (w:World) (S:Nat→Prop) (b:Nat) (bs:List UInt8) (long:Bool) (o:WO) (e:Ending) (w':World):Prop:=
 Mod S w w'∧match o with
  | some (d,l)=>e=.returned (.tuple #[])∧∃ S1,St w' S1 b (bs++d) (long||l)∧∀ k,S1 k→S k∨w.heap.size≤k
  | none=>e=zjK 3
theorem zaU (w:World):Calls Tryz.prog 431 #[.bool true] w fun e w'=>e=.returned (.tuple #[])∧w=w':=by
 go_enter Tryz.func431,Tryz.ntmps431
 go_wp2
 go_end0
 exact ⟨rfl,rfl⟩
theorem zbW (w:World):Calls Tryz.prog 431 #[.bool false] w fun e w'=>e=zjK 3∧w=w':=by
 go_enter Tryz.func431,Tryz.ntmps431
 go_wp2
 exact ⟨rfl,rfl,rfl⟩
theorem zh8 (a b:Nat) (w:World):Calls Tryz.prog 267 #[.float .f64 a,.float .f64 b] w fun e w'=>e=.returned (.bool (yV a b))∧w=w':=by
 have e3:((xS a:Int)==(xS b:Int))=yV a b:=by unfold yV;rw[Bool.eq_iff_iff];simp;omega
 go_enter Tryz.func267,Tryz.ntmps267
 go_wp2_with (go_at_call 338;refine (zb0 _ _).mono ?_;rintro e w' ⟨rfl,rfl⟩)
 go_ret
 exact ⟨rfl,rfl⟩
theorem zmW (a:Nat) (w:World):Calls Tryz.prog 460 #[.float .f64 a] w fun e w'=>e=.returned (.bool (za4 a))∧w=w':=by
 have e3:((xS a:Int)==(a:Int))=za4 a:=by unfold za4;rw[Bool.eq_iff_iff];simp;omega
 go_enter Tryz.func460,Tryz.ntmps460
 go_wp2_with (go_at_call 338;refine (zb0 _ _).mono ?_;rintro e w' ⟨rfl,rfl⟩)
 go_ret
 exact ⟨rfl,rfl⟩
theorem zf6 (v:yO) (w:World):Calls Tryz.prog 457 #[.agg #[.int .i64 v.kind,.float .f64 v.num,.string v.text]] w fun e w'=>e=.returned (.bool (zdU v))∧Ext w w':=by
 have hT:v.text.toList.isEmpty=zZ v.text:=rfl
 rcases h1:(v.kind==0) with _|_
 ·
  go_enter Tryz.func457,Tryz.ntmps457
  go_wp2
  go_ret
  exact ⟨yC (by simp[zdU,h1]),(Mod.refl _ w).alloc _⟩
 rcases h2:yV v.num 0 with _|_
 focus
  go_enter Tryz.func457,Tryz.ntmps457
 rotate_left
 focus
  go_enter Tryz.func457,Tryz.ntmps457
 all_goals
  go_wp2_with (go_at_call 267;refine (zh8 _ _ _).mono ?_;rintro e w' ⟨rfl,rfl⟩)
  go_ret
  exact ⟨yC (by simp[zdU,h1,h2]),(Mod.refl _ w).alloc _⟩
theorem zhM (c:zW) (w:World):Calls Tryz.prog 453 #[.agg #[.int .i64 c.client,.int .i64 c.seq,.int .i64 c.cmd.kind,.string c.cmd.key,.int .i64 c.cmd.old.kind,.float .f64 c.cmd.old.num,.string c.cmd.old.text,.int .i64 c.cmd.val.kind,.float .f64 c.cmd.val.num,.string c.cmd.val.text]] w
  fun e w'=>e=.returned (.bool (yW c))∧Ext w w':=by
 have hT:c.cmd.key.toList.isEmpty=zZ c.cmd.key:=rfl
 have hE:Ext w (w.alloc (.cells #[.int .i64 c.client,.int .i64 c.seq,.int .i64 c.cmd.kind,.string c.cmd.key,.int .i64 c.cmd.old.kind,.float .f64 c.cmd.old.num,.string c.cmd.old.text,.int .i64 c.cmd.val.kind,.float .f64 c.cmd.val.num,.string c.cmd.val.text] 29)):=(Mod.refl _ w).alloc _
 rcases h1:(c.client==0) with _|_
 ·
  go_enter Tryz.func453,Tryz.ntmps453
  go_wp2
  go_ret
  exact ⟨yC (by simp[yW,h1]),hE⟩
 rcases h2:(c.seq==0) with _|_
 ·
  go_enter Tryz.func453,Tryz.ntmps453
  go_wp2
  go_ret
  exact ⟨yC (by simp[yW,h2]),hE⟩
 rcases h3:(c.cmd.kind==0) with _|_
 ·
  go_enter Tryz.func453,Tryz.ntmps453
  go_wp2
  go_ret
  exact ⟨yC (by simp[yW,h3]),hE⟩
 rcases h4:zZ c.cmd.key with _|_
 ·
  go_enter Tryz.func453,Tryz.ntmps453
  go_wp2
  go_ret
  exact ⟨yC (by simp[yW,h4]),hE⟩
 rcases h5:zdU c.cmd.old with _|_
 ·
  go_enter Tryz.func453,Tryz.ntmps453
  go_wp2_with fail
  refine (zf6 c.cmd.old _).mono ?_
  rintro e w1 ⟨rfl,hE1⟩
  rw[h5]
  have HE1:=hJ hE1
  clear hE1
  go_wp2
  go_ret
  exact ⟨yC (by simp[yW,h5]),Mod.ext hE HE1.out⟩
 go_enter Tryz.func453,Tryz.ntmps453
 go_wp2_with fail
 refine (zf6 c.cmd.old _).mono ?_
 rintro e w1 ⟨rfl,hE1⟩
 rw[h5]
 have c1:=hE1.cell (p:=⟨w.heap.size,7,none⟩) (v:=.int .i64 c.cmd.val.kind) (by simp) id
 have c2:=hE1.cell (p:=⟨w.heap.size,8,none⟩) (v:=.float .f64 c.cmd.val.num) (by simp) id
 have c3:=hE1.cell (p:=⟨w.heap.size,9,none⟩) (v:=.string c.cmd.val.text) (by simp) id
 have HE1:=hJ hE1
 clear hE1
 go_wp2_with fail
 refine (zf6 c.cmd.val _).mono ?_
 rintro e w2 ⟨rfl,hE2⟩
 have HE2:=hJ hE2
 clear hE2
 go_wp2
 go_ret
 exact ⟨yC (by simp[yW,h1,h2,h3,h4,h5]),Mod.ext (Mod.ext hE HE1.out) HE2.out⟩
end Go.Proofs.YtjbkjhhjofeldaaGreat
namespace Go.Proofs.YtjbkjhhjofeldaaGreat
set_option linter.unusedSimpArgs false
open Go.RowKit
theorem jA {w:World} {b:Nat} {cs:List Value} {t:TypeId} (h:w.heap[b]? = some (.cells cs.toArray t (0,0))) (j:Nat) (u:Value):(w.setCell ⟨b,j,none⟩ u).heap[b]? = some (.cells (cs.set j u).toArray t (0,0)):=by
 simp[World.setCell,Array.getElem?_modify,h]
end Go.Proofs.YtjbkjhhjofeldaaGreat
namespace Go.Proofs.YtjbkjhhjofeldaaGreat
set_option linter.unusedSimpArgs false
open Go.RowKit
theorem zc2 (t:List UInt8):(xK t).length≤10+t.length:=by have:=zP t.length;simp[xK];omega
theorem hib_len':∀ k x,(hib k x).length=k:=by
 intro k x
 induction k with
 | zero=>rfl
 | succ k ih=>simp[hib,ih]
theorem zlW (v:yO):(zi5 v).length≤30+v.text.size:=by
 have h1:=zP v.kind
 have h2:=zc2 (zbC v.text)
 have h3:(qA v.num).length=8:=hib_len' 8 _
 have h4:(zbC v.text).length=v.text.size:=rfl
 unfold zi5
 rw[List.length_append]
 split
 · omega
 split
 · omega
 simp;omega
theorem zjL {α:Type} {f:α→List UInt8} {l:List α} {i:Nat} {x:α} (h:l[i]? = some x):(l.take (i+1)).flatMap f=(l.take i).flatMap f++f x:=by
 obtain ⟨hi,rfl⟩:=List.getElem?_eq_some_iff.1 h
 rw[List.take_succ_eq_append_getElem hi,List.flatMap_append]
 simp
theorem zf7 {α:Type} {f:α→List UInt8} {l:List α} {k:Nat} (h:∀ x∈l,(f x).length≤k):(l.flatMap f).length≤l.length*k:=by
 induction l with
 | nil=>simp
 | cons a l ih=>
  have h1:=h a (by simp)
  have h2:=ih (fun x hx=>h x (by simp[hx]))
  rw[List.flatMap_cons,List.length_append,List.length_cons,Nat.succ_mul]
  omega
theorem zlX {α:Type} {f:α→List UInt8} {l:List α} {k:Nat} (i:Nat) (h:∀ x∈l,(f x).length≤k):((l.take i).flatMap f).length≤l.length*k:=by
 have h1:=zf7 (f:=f) (l:=l.take i) (k:=k) (fun x hx=>h x (List.mem_of_mem_take hx))
 have h2:(l.take i).length≤l.length:=by rw[List.length_take];omega
 exact Nat.le_trans h1 (Nat.mul_le_mul_right _ h2)
theorem zh9 (s:ByteArray) (w:World):(convert 9 58 (.string s)).run Tryz.prog w=.ok (.slice (some ⟨w.heap.size,0,none⟩) s.size (grownCap w s.size 0 5)) (Lib.bytesWorld w 5 s):=
 Lib.run_convert_string_bytes w _ _ _ s Tryz.underlying9 Tryz.underlying58 Tryz.underlying5
theorem zoO (w:World) (e:TypeId) (s:ByteArray):Ext w (Lib.bytesWorld w e s):=
 ⟨rfl,rfl,rfl,by rw[Lib.bytesWorld_size];omega,fun k hk _=>Lib.bytesWorld_at_old w e s k hk⟩
theorem zoP (w:World) (e:TypeId) (s:ByteArray) (hs:s.size≤maxLen):Byt (Lib.bytesWorld w e s) (fun g=>w.heap.size≤g) (.slice (some ⟨w.heap.size,0,none⟩) s.size (grownCap w s.size 0 e)) (zbC s):=by
 have hl:(zbC s).length=s.size:=rfl
 refine ⟨by simp,_,_,by rw[hl],by rw[hl];exact grownCap_ge w _ _ _,grownCap_le_maxLen w _ _ _ hs,fun _=>⟨_,0,rfl,Nat.le_refl _,fun j u hu=>?_⟩⟩
 have hj:j<s.size:=by have:=(List.getElem?_eq_some_iff.1 hu).1;simpa using this
 rw[Nat.zero_add,Lib.bytesWorld_cell w e s j hj,←hu]
 have hjl:j<s.data.toList.length:=by simpa using hj
 rw[List.getElem?_map,List.getElem?_eq_getElem hjl,Option.map_some,List.getD,List.getElem?_eq_getElem hjl]
 rfl
theorem zoQ {w:World} {T:Nat→Prop} {v:Value} {l:List UInt8} (h:Byt w T v l):(convert 58 9 v).run Tryz.prog w=.ok (.string ⟨l.toArray⟩) w:=by
 obtain ⟨_,A,c,rfl,hn,hc,hx⟩:=h
 rcases A with _|a
 ·
  have hl:l=[]:=by
   rcases l with _|⟨x,l⟩
   · rfl
   obtain ⟨g,off,e,_⟩:=hx (by simp)
   cases e
  subst hl
  rw[run_convert_bytes_string w _ _ _ none _ c Tryz.underlying58 Tryz.underlying5 Tryz.underlying9]
  simp[Conv.bytesToString]
  rfl
 refine run_convert_bytes_back w _ _ _ a c l Tryz.underlying58 Tryz.underlying5 Tryz.underlying9 (fun j hj=>?_)
 obtain ⟨g,off,e,_,hcell⟩:=hx (by omega)
 injection e with e
 subst e
 have h9:=hcell j (.int .u8 (l[j].toNat:Int)) (by simp[hj,B])
 simp only[Addr.add]
 split
 ·
  rename_i h0
  subst h0
  simpa using h9
 simpa using h9
end Go.Proofs.YtjbkjhhjofeldaaGreat
namespace Go.Proofs.YtjbkjhhjofeldaaGreat
set_option linter.unusedSimpArgs false
open Go.RowKit
end Go.Proofs.YtjbkjhhjofeldaaGreat
namespace Go.Proofs.YtjbkjhhjofeldaaGreat
set_option linter.unusedSimpArgs false
open Go.RowKit
theorem zV:Str Tryz.prog 29 10:=⟨⟨_,Tryz.underlying29⟩,by kernel_rfl⟩
theorem za5:Str Tryz.prog 57 4:=⟨⟨_,Tryz.underlying57⟩,by kernel_rfl⟩
theorem yR:Str Tryz.prog 100 16:=⟨⟨_,Tryz.underlying100⟩,by kernel_rfl⟩
end Go.Proofs.YtjbkjhhjofeldaaGreat
set_option maxRecDepth 100000
set_option maxHeartbeats 1000000
namespace Go.Proofs.YtjbkjhhjofeldaaGreat
set_option linter.unusedSimpArgs false
set_option linter.unusedVariables false
open Go.RowKit
abbrev c1v:Value:=.agg #[.int .i64 1,.int .i64 0,.int .i64 0,.int .i64 0]
theorem c_count1 (w:World):Calls Tryz.prog 294 #[.int .i64 1] w fun e w'=>e=.returned (.int .i64 1)∧w'=w:=by
 go_enter Tryz.func294,Tryz.ntmps294
 go_wp2_with fail
 go_loopw [3,4,5] (fun nv _ iv wr=>∃ i:Nat,i≤7∧iv=.int .i64 i∧nv=.int .i64 (if i=0 then 0 else 1)∧wr=w) (fun _ _ iv _=>7-(intOf iv).toNat)
 case atStart=>exact ⟨0,by omega,rfl,rfl,rfl⟩
 obtain ⟨i,hi,rfl,rfl,rfl⟩:=hrel
 have hc:i=0∨i=1∨i=2∨i=3∨i=4∨i=5∨i=6∨i=7:=by omega
 rcases hc with rfl|rfl|rfl|rfl|rfl|rfl|rfl|rfl
 all_goals go_wp2
 iterate 7 (rotate_left;skip)
 · go_ret
   exact ⟨rfl,rfl⟩
 · exact ⟨⟨1,by omega,rfl,by rw[show wrap64 (bits .and .i64 1 1)=1 by decide +kernel];rfl,trivial⟩,by simp[intOf]⟩
 · exact ⟨⟨2,by omega,rfl,by rw[show wrap64 (1+bits .and .i64 0 1)=1 by decide +kernel];rfl,trivial⟩,by simp[intOf]⟩
 · exact ⟨⟨3,by omega,rfl,by rw[show wrap64 (1+bits .and .i64 0 1)=1 by decide +kernel];rfl,trivial⟩,by simp[intOf]⟩
 · exact ⟨⟨4,by omega,rfl,by rw[show wrap64 (1+bits .and .i64 0 1)=1 by decide +kernel];rfl,trivial⟩,by simp[intOf]⟩
 · exact ⟨⟨5,by omega,rfl,by rw[show wrap64 (1+bits .and .i64 0 1)=1 by decide +kernel];rfl,trivial⟩,by simp[intOf]⟩
 · exact ⟨⟨6,by omega,rfl,by rw[show wrap64 (1+bits .and .i64 0 1)=1 by decide +kernel];rfl,trivial⟩,by simp[intOf]⟩
 · exact ⟨⟨7,by omega,rfl,by rw[show wrap64 (1+bits .and .i64 0 1)=1 by decide +kernel];rfl,trivial⟩,by simp[intOf]⟩
theorem and11:bits .and .i64 1 1=1:=by decide +kernel
theorem zjM (w:World):Calls Tryz.prog 295 #[c1v] w fun e w'=>e=.returned (.int .i64 1)∧Ext w w':=by
 have e:bits .or .i64 1 0=1:=by decide +kernel
 go_enter Tryz.func295,Tryz.ntmps295
 go_wp2
 go_ret
 exact ⟨rfl,(Mod.refl _ w).alloc _⟩
theorem c_all1 (w:World):Calls Tryz.prog 163 #[c1v] w fun e w'=>e=.returned (.int .i64 1)∧Ext w w':=by
 have e:bits .or .i64 1 0=1:=by decide +kernel
 go_enter Tryz.func163,Tryz.ntmps163
 go_wp2
 go_ret
 exact ⟨rfl,(Mod.refl _ w).alloc _⟩
theorem c_node0 (w:World):Calls Tryz.prog 165 #[.int .i64 0] w fun e w'=>e=.returned (.bool true)∧w'=w:=by
 go_enter Tryz.func165,Tryz.ntmps165
 go_wp2
 go_ret
 exact ⟨rfl,rfl⟩
theorem zoR (w:World):Calls Tryz.prog 89 #[c1v,.int .i64 0] w fun e w'=>e=.returned (.string ⟨#[102,117,108,108]⟩)∧Ext w w':=by
 have e:=and11
 have hE:Ext w (w.alloc (.cells #[.int .i64 1,.int .i64 0,.int .i64 0,.int .i64 0] 57)):=(Mod.refl _ w).alloc _
 go_enter Tryz.func89,Tryz.ntmps89
 go_wp2_with (go_at_call 165;refine (c_node0 _).mono ?_;rintro e w1 ⟨rfl,rfl⟩)
 go_ret
 exact ⟨rfl,hE⟩
theorem zf8 (w:World):Calls Tryz.prog 200 #[c1v,.int .i64 1] w fun e w'=>e=.returned (.bool true)∧Ext w w':=by
 have e11:=and11
 obtain ⟨b,hb⟩:∃ b,w.heap.size=b:=⟨_,rfl⟩
 obtain ⟨W1,hW1⟩:∃ W1,w.alloc (.cells #[.int .i64 1,.int .i64 0,.int .i64 0,.int .i64 0] 57)=W1:=⟨_,rfl⟩
 have hE:Ext w W1:=hW1▸(Mod.refl _ w).alloc _
 have hb1:W1.heap[b]? = some (.cells [.int .i64 1,.int .i64 0,.int .i64 0,.int .i64 0].toArray 57 (0,0)):=hb▸hW1▸heap_alloc_new _ _
 have p0:W1.cell? ⟨b,0,none⟩=some (.int .i64 1):=zA hb1 rfl
 have p1:W1.cell? ⟨b,1,none⟩=some (.int .i64 0):=zA hb1 rfl
 have p2:W1.cell? ⟨b,2,none⟩=some (.int .i64 0):=zA hb1 rfl
 have p3:W1.cell? ⟨b,3,none⟩=some (.int .i64 0):=zA hb1 rfl
 obtain ⟨Hb1,HE⟩:=hJ2 hb1 hE
 clear hb1
 go_enter Tryz.func200,Tryz.ntmps200
 go_upto_region 1 with fail
 clear hW1 hE
 go_region_held3 (fun W=>W.cell? ⟨b,0,none⟩=some (.int .i64 1)∧W.cell? ⟨b,1,none⟩=some (.int .i64 0)∧W.cell? ⟨b,2,none⟩=some (.int .i64 0)∧W.cell? ⟨b,3,none⟩=some (.int .i64 0)) (first|exact hS|go_keep) (first
   | (go_at_call 295;refine (zjM _).mono ?_;rintro e w3 ⟨rfl,hE3⟩;have hEx:Ext W1 w3:=(by first|exact hEx.ext hE3|exact ((Mod.refl _ W1).drew).ext hE3);have hS:w3.cell? ⟨b,0,none⟩=some (.int .i64 1)∧w3.cell? ⟨b,1,none⟩=some (.int .i64 0)∧w3.cell? ⟨b,2,none⟩=some (.int .i64 0)∧w3.cell? ⟨b,3,none⟩=some (.int .i64 0):=⟨zA (hEx.blk Hb1.out id) rfl,zA (hEx.blk Hb1.out id) rfl,zA (hEx.blk Hb1.out id) rfl,zA (hEx.blk Hb1.out id) rfl⟩)
   | (go_at_call 294;refine (c_count1 _).mono ?_;rintro e w4 ⟨rfl,rfl⟩))
 all_goals
  go_wp2
  go_ret
  exact ⟨rfl,HE.out.ext hEx⟩
end Go.Proofs.YtjbkjhhjofeldaaGreat
set_option maxRecDepth 100000
set_option maxHeartbeats 1000000
namespace Go.Proofs.YtjbkjhhjofeldaaGreat
open Go.RowKit
attribute [local go_sem] yN xT
theorem St.of_ext {w w':World} {S:Nat→Prop} {b:Nat} {bs:List UInt8} {long:Bool} (h:St w S b bs long) (hE:Ext w w'):St w' S b bs long:=
 ⟨h.1.mod hE (fun _ _=>id),fun k hk=>Nat.lt_of_lt_of_le (h.2 k hk) hE.size⟩
theorem ziA {w w':World} {S:Nat→Prop} {b:Nat} {bs:List UInt8} {long:Bool} (h:Wr w' (Nw S w) b bs long):∃ S1,St w' S1 b bs long∧∀ k,S1 k→S k∨w.heap.size≤k:=
 ⟨fun k=>Nw S w k∧k<w'.heap.size,⟨h.mono (fun _ hk hS=>⟨hS,hk⟩),fun _ hk=>hk.2⟩,fun _ hk=>hk.1⟩
theorem jN {S S1 S2:Nat→Prop} {w w1:World} (h1:∀ k,S1 k→S k∨w.heap.size≤k) (h2:∀ k,S2 k→S1 k∨w1.heap.size≤k) (hs:w.heap.size≤w1.heap.size):∀ k,S2 k→S k∨w.heap.size≤k:=fun k hk=>by
 rcases h2 k hk with h|h
 · exact h1 k h
 exact .inr (by omega)
theorem zb4 {S S1:Nat→Prop} {w w1 w2:World} (h:Mod S w w1) (h':Mod S1 w1 w2) (hg:∀ k,S1 k→S k∨w.heap.size≤k):Mod S w w2:=
 h.trans h' (fun k hk hS=>by
  rcases hg k hS with h|h
  · exact h
  omega)
theorem zjN {l:List Int} {i:Nat} {x:Int} (h:l[i]? = some x):zY (l.take (i+1))=zY (l.take i)++yM x:=by
 obtain ⟨hi,rfl⟩:=List.getElem?_eq_some_iff.1 h
 unfold zY
 rw[List.take_succ_eq_append_getElem hi,List.flatMap_append]
 simp only[List.flatMap_cons,List.flatMap_nil,List.append_nil]
theorem yS (l:List Int):(zY l).length≤10*l.length:=by
 induction l with
 | nil=>simp[zY]
 | cons a l ih=>have:=zP a;simp[zY] at ih ⊢;omega
theorem intAt {w:World} {T:Nat→Prop} {A:Option Addr} {n c:Nat} {l:List Int} (hs:Sl w T 1 (.slice A n c) n (l.map (Value.int .i64))) {i:Nat} (hi:i<n):
  ∃ g off x,A=some ⟨g,off,none⟩∧l[i]? = some x∧w.cell? ⟨g,off+i,none⟩=some (.int .i64 x):=by
 obtain ⟨hl,A',c',e,hn,hc,hx⟩:=hs
 injection e with e1 _ e3;subst e1;subst e3
 obtain ⟨g,off,rfl,hT,hcell⟩:=hx (by omega)
 have hli:i<l.length:=by simp at hl;omega
 exact ⟨g,off,l[i],rfl,List.getElem?_eq_getElem hli,hcell i _ (by simp[List.getElem?_eq_getElem hli])⟩
theorem ziB (w:World) (S T:Nat→Prop) (b:Nat) (bs:List UInt8) (long:Bool) (v:Value) (l:List Int) (h:St w S b bs long) (hv:Sl w T 1 v l.length (l.map (Value.int .i64))) (hd:∀ g,T g→¬ S g)
  (hr:∀ n∈l,I64 n) (hl:l.length≤16) (hb:bs.length≤899999000):
  Calls Tryz.prog 420 #[.pointer (some ⟨b,0,none⟩),v] w (zn2 w S b bs long (some (zY l,false))):=by
 obtain ⟨n,hn⟩:∃ n,l.length=n:=⟨_,rfl⟩
 have hv:=hv.cap (by omega)
 rw[hn] at hv hl
 obtain ⟨A,c,rfl⟩:=hv.form
 obtain ⟨Hn,Hr⟩:=hJ2 hn hr
 clear hn hr
 go_enter Tryz.func420,Tryz.ntmps420
 go_wp2
 go_loopw [8] (fun iv wr=>∃ (i:Nat) (S1:Nat→Prop),i≤n∧iv=.int .i64 i∧St wr S1 b (bs++zY (l.take i)) long∧(∀ k,S1 k→S k∨w.heap.size≤k)∧Mod S w wr) (fun iv _=>n-(intOf iv).toNat)
 case atStart=>exact ⟨0,S,by omega,rfl,by simpa [zY] using h,fun k hk=>.inl hk,Mod.refl _ _⟩
 obtain ⟨i,S1,hin,rfl,hS,hg,hm⟩:=hrel
 have hvr:=hv.mod hm (fun g hg=>hd g hg.1)
 by_cases hi:i<n
 ·
  obtain ⟨g,off,x,rfl,hx,hcell⟩:=intAt hvr hi
  have hxr:=Hr.out x (List.mem_of_getElem? hx)
  have hsn:=zjN hx
  have hln:(bs++zY (l.take i)).length≤900000000:=by have:=yS (l.take i);rw[List.length_take] at this;simp;omega
  have Hsn:=hJ hsn
  clear hsn hx hvr
  go_wp2_with fail
  refine (zmR wr S1 b _ long x hS.1 (by omega) hxr.1 hxr.2).mono ?_
  rintro e w1 ⟨rfl,hW1,hm1⟩
  obtain ⟨S2,hS2,hg2⟩:=ziA hW1
  rw[List.append_assoc,←Hsn.out] at hS2
  have hg3:=jN hg hg2 hm.size
  have hm2:=zb4 hm hm1 hg
  obtain ⟨Hg3,Hg⟩:=hJ2 hg3 hg
  clear hg3 hg2 hg
  go_wp2
  exact ⟨⟨i+1,S2,by omega,by go_num,hS2,Hg3.out,hm2⟩,by simp[intOf];omega⟩
 rw[List.take_of_length_le (by rw[Hn.out];omega)] at hS
 have Hg:=hJ hg
 clear hg
 go_wp2
 go_end0
 exact ⟨hm,rfl,S1,by simpa using hS,Hg.out⟩
theorem zoS (s:ByteArray) (w:World):(convert 9 58 (.string s)).run Tryz.prog w=.ok (.slice (some ⟨w.heap.size,0,none⟩) s.size (grownCap w s.size 0 5)) (Lib.bytesWorld w 5 s):=
 Lib.run_convert_string_bytes w _ _ _ s Tryz.underlying9 Tryz.underlying58 Tryz.underlying5
theorem bw_ext (w:World) (e:TypeId) (s:ByteArray):Ext w (Lib.bytesWorld w e s):=
 ⟨rfl,rfl,rfl,by rw[Lib.bytesWorld_size];omega,fun k hk _=>Lib.bytesWorld_at_old w e s k hk⟩
theorem bw_byt (w:World) (e:TypeId) (s:ByteArray) (hs:s.size≤maxLen):Byt (Lib.bytesWorld w e s) (fun g=>w.heap.size≤g) (.slice (some ⟨w.heap.size,0,none⟩) s.size (grownCap w s.size 0 e)) (zbC s):=by
 have hl:(zbC s).length=s.size:=rfl
 refine ⟨by simp,_,_,by rw[hl],by rw[hl];exact grownCap_ge w _ _ _,grownCap_le_maxLen w _ _ _ hs,fun _=>⟨_,0,rfl,Nat.le_refl _,fun j u hu=>?_⟩⟩
 have hj:j<s.size:=by have:=(List.getElem?_eq_some_iff.1 hu).1;simpa using this
 rw[Nat.zero_add,Lib.bytesWorld_cell w e s j hj,←hu]
 have hjl:j<s.data.toList.length:=by simpa using hj
 rw[List.getElem?_map,List.getElem?_eq_getElem hjl,Option.map_some,List.getD,List.getElem?_eq_getElem hjl]
 rfl
attribute [local go_sem high] zoS
theorem zcH (b:WO):WO.seq none b=none:=by cases b <;> rfl
theorem xM (x:List UInt8) (l:Bool):WO.seq (some (x,l)) none=none:=rfl
theorem xD (x y:List UInt8) (l m:Bool):WO.seq (some (x,l)) (some (y,m))=some (x++y,l||m):=rfl
theorem jO {w wb w1:World} {S S1:Nat→Prop} {b:Nat} {bs d:List UInt8} {long l:Bool} {o:WO} (hE:Ext w wb) (hm:Mod S wb w1) (hS:St w1 S1 b (bs++d) (long||l)) (hg:∀ k,S1 k→S k∨wb.heap.size≤k) (ho:o=some (d,l)):
  zn2 w S b bs long o (.returned (.tuple #[])) w1:=by
 subst ho
 exact ⟨(hE.mod S).self hm,rfl,S1,hS,fun k hk=>(hg k hk).imp id (fun h=>Nat.le_trans hE.size h)⟩
theorem xU {w wb w1:World} {S:Nat→Prop} {b:Nat} {bs:List UInt8} {long:Bool} {o:WO} (hE:Ext w wb) (hm:Mod S wb w1) (ho:o=none):zn2 w S b bs long o (zjK 3) w1:=by
 subst ho
 exact ⟨(hE.mod S).self hm,rfl⟩
theorem zlZ (w:World) (S:Nat→Prop) (b:Nat) (bs:List UInt8) (long:Bool) (v:yO) (h:St w S b bs long) (hv:v.ok) (hb:bs.length≤899000000):
  Calls Tryz.prog 458 #[.pointer (some ⟨b,0,none⟩),.agg #[.int .i64 v.kind,.float .f64 v.num,.string v.text]] w (zn2 w S b bs long (jW v)):=by
 obtain ⟨⟨k0,k1⟩,hx,ht⟩:=hv
 have hT:v.text.toList.isEmpty=zZ v.text:=rfl
 obtain ⟨wb,hwb⟩:∃ wb,wb=(w.alloc (.cells #[.int .i64 v.kind,.float .f64 v.num,.string v.text] 25)).drew:=⟨_,rfl⟩
 have hE:Ext w wb:=by rw[hwb];exact ((Mod.refl _ w).alloc _).drew
 have hSb:=h.of_ext hE
 have hnS:¬ S w.heap.size:=fun hs=>by have:=h.2 _ hs;omega
 have hcs:∀ w1,Mod S wb w1→w1.cell? ⟨w.heap.size,0,none⟩=some (.int .i64 v.kind)∧w1.cell? ⟨w.heap.size,1,none⟩=some (.float .f64 v.num)∧w1.cell? ⟨w.heap.size,2,none⟩=some (.string v.text):=by
  intro w1 hm
  refine ⟨hm.cell ?_ hnS,hm.cell ?_ hnS,hm.cell ?_ hnS⟩ <;> rw[hwb] <;> simp
 have hcl:=zP v.kind
 obtain ⟨Hwb,Hcs,Hx,Ht⟩:=hJ4 hwb hcs hx ht
 clear hwb hcs hx ht
 go_enter Tryz.func458,Tryz.ntmps458
 go_wp2_with fail
 go_region_held3 (fun W=>W.cell? ⟨w.heap.size,0,none⟩=some (.int .i64 v.kind)) (first|go_keep|exact hx0)
  ((go_at_call 246
    rw[←Hwb.out]
    refine (zmR wb S b bs long v.kind hSb.1 (by omega) k0 k1).mono ?_
    rintro e w1 ⟨rfl,hW1,hm1⟩
    obtain ⟨hx0,hx1,hx2⟩:=Hcs.out w1 hm1))
 obtain ⟨S1,hS1,hg1⟩:=ziA hW1
 have hs1:=hm1.size
 have hsE:=hE.size
 have hn1:¬ S1 w.heap.size:=fun hs=>by
  rcases hg1 _ hs with h|h
  · exact hnS h
  rw[Hwb.out] at h;simp at h;omega
 have Hg1:=hJ hg1
 clear hg1
 by_cases e0:v.kind=0
 ·
  have d0:(v.kind==0)=true:=by simp[e0]
  have Hs:Hid (jW v=WO.seq (some (yM v.kind,false)) (qB (yV v.num 0&&zZ v.text))):=hJ (by simp[jW,e0,zcR])
  clear e0
  go_wp2_with fail
  refine (zh8 _ _ _).mono ?_
  rintro e w' ⟨rfl,rfl⟩
  rcases hq:(yV v.num 0&&zZ v.text) with _|_
  ·
   rcases h1:yV v.num 0 with _|_
   focus
    go_wp2_with fail
   rotate_left
   focus
    have h2:zZ v.text=false:=by simpa [h1] using hq
    go_wp2_with fail
   all_goals
    refine (zbW _).mono ?_
    rintro e w' ⟨rfl,rfl⟩
    exact ⟨rfl,xU hE hm1 (by rw[Hs.out,hq];rfl)⟩
  have h1:yV v.num 0=true:=by simp at hq;exact hq.1
  have h2:zZ v.text=true:=by simp at hq;exact hq.2
  go_wp2_with fail
  refine (zaU _).mono ?_
  rintro e w' ⟨rfl,rfl⟩
  go_wp2
  go_end0
  exact jO (d:=yM v.kind) (l:=false) hE hm1 (by simpa using hS1) Hg1.out (by rw[Hs.out,hq];simp[qB,xD])
 have d0:(v.kind==0)=false:=by simp[e0]
 by_cases e1:v.kind=1
 ·
  have d1:(v.kind==1)=true:=by simp[e1]
  have Hs:Hid (jW v=WO.seq (some (yM v.kind,false)) ((qB (za4 v.num&&zZ v.text)).seq (some (qA v.num,false)))):=hJ (by simp[jW,e1,zcR])
  clear e0 e1
  go_wp2_with fail
  refine (zmW _ _).mono ?_
  rintro e w' ⟨rfl,rfl⟩
  rcases hq:(za4 v.num&&zZ v.text) with _|_
  ·
   rcases h1:za4 v.num with _|_
   focus
    go_wp2_with fail
   rotate_left
   focus
    have h2:zZ v.text=false:=by simpa [h1] using hq
    go_wp2_with fail
   all_goals
    refine (zbW _).mono ?_
    rintro e w' ⟨rfl,rfl⟩
    exact ⟨rfl,xU hE hm1 (by rw[Hs.out,hq];rfl)⟩
  have h1:za4 v.num=true:=by simp at hq;exact hq.1
  have h2:zZ v.text=true:=by simp at hq;exact hq.2
  go_wp2_with fail
  refine (zaU _).mono ?_
  rintro e w' ⟨rfl,rfl⟩
  go_wp2_with fail
  go_region_held3 (fun W=>W.cell? ⟨w.heap.size,1,none⟩=some (.float .f64 v.num)) (first|go_keep|exact hy)
   ((go_at_call 339
     refine (zoF w1.drew S1 b (bs++yM v.kind) long v.num hS1.1 (by simp;omega)).mono ?_
     rintro e w2 ⟨rfl,hW2,hm2⟩
     have hy:w2.cell? ⟨w.heap.size,1,none⟩=some (.float .f64 v.num):=hm2.cell hx1 hn1))
  obtain ⟨S2,hS2,hg2⟩:=ziA hW2
  have hm3:=zb4 hm1.drew hm2 Hg1.out
  have hg3:=jN Hg1.out hg2 hs1
  have Hg3:=hJ hg3
  clear hg3 hg2
  go_wp2
  go_end0
  exact jO (d:=yM v.kind++qA v.num) (l:=false) hE hm3 (by simpa using hS2) Hg3.out (by rw[Hs.out,hq];simp[qB,xD])
 have d1:(v.kind==1)=false:=by simp[e1]
 by_cases e2:v.kind=2
 ·
  have d2:(v.kind==2)=true:=by simp[e2]
  have Hs:Hid (jW v=WO.seq (some (yM v.kind,false)) ((qB (yV v.num 0)).seq (zbT (zbC v.text)))):=hJ (by simp[jW,e2,zcR])
  clear e0 e1 e2
  go_wp2_with fail
  refine (zh8 _ _ _).mono ?_
  rintro e w' ⟨rfl,rfl⟩
  rcases hq:yV v.num 0 with _|_
  ·
   go_wp2_with fail
   refine (zbW _).mono ?_
   rintro e w' ⟨rfl,rfl⟩
   exact ⟨rfl,xU hE hm1 (by rw[Hs.out,hq];rfl)⟩
  go_wp2_with fail
  refine (zaU _).mono ?_
  rintro e w' ⟨rfl,rfl⟩
  have hbe:=bw_ext w1.drew 5 v.text
  have hbb:=bw_byt w1.drew 5 v.text Ht.out
  have hSt:St (Lib.bytesWorld w1.drew 5 v.text) S1 b (bs++yM v.kind) long:=St.of_ext (w:=w1.drew) hS1 hbe
  have hcb:(Lib.bytesWorld w1.drew 5 v.text).cell? ⟨w.heap.size,2,none⟩=some (.string v.text):=hbe.cell (show w1.drew.cell? _=_ from hx2) id
  have hm1b:Mod S wb (Lib.bytesWorld w1.drew 5 v.text):=hm1.drew.ext hbe
  have hsb:=hm1b.size
  have hln:(zbC v.text).length=v.text.size:=rfl
  have hdis:∀ g,w1.drew.heap.size≤g→¬ S1 g:=fun g h1 h2=>by have h3:=hS1.2 g h2;have h4:w1.heap.size≤g:=h1;omega
  by_cases h5:16384<v.text.size
  ·
   have Ho:Hid (jW v=some (yM v.kind,true)):=hJ (by rw[Hs.out,hq];simp[qB,xD,zbT,hln,h5])
   go_wp2_with fail
   go_region_with
    ((go_at_call 247
      refine (zdW _ S1 _ b (bs++yM v.kind) (zbC v.text) long _ hSt.1 hbb (by rw[hln];exact h5)).mono ?_
      rintro e w2 ⟨rfl,hW2,hm2⟩))
   obtain ⟨S2,hS2,hg2⟩:=ziA hW2
   have hm3:=zb4 hm1b hm2 Hg1.out
   have hg3:=jN Hg1.out hg2 hsb
   have Hg3:=hJ hg3
   clear hg3 hg2
   go_wp2
   go_end0
   exact jO (d:=yM v.kind) (l:=true) hE hm3 (by simpa using hS2) Hg3.out Ho.out
  have Ho:Hid (jW v=some (yM v.kind++xK (zbC v.text),false)):=hJ (by rw[Hs.out,hq];simp[qB,xD,zbT,hln,h5])
  go_wp2_with fail
  go_region_with
   ((go_at_call 247
     refine (zlN _ S1 _ b (bs++yM v.kind) (zbC v.text) long _ hSt.1 (by simp;omega) hbb hdis (by rw[hln];omega)).mono ?_
     rintro e w2 ⟨rfl,hW2,hm2⟩))
  obtain ⟨S2,hS2,hg2⟩:=ziA hW2
  have hm3:=zb4 hm1b hm2 Hg1.out
  have hg3:=jN Hg1.out hg2 hsb
  have Hg3:=hJ hg3
  clear hg3 hg2
  go_wp2
  go_end0
  exact jO (d:=yM v.kind++xK (zbC v.text)) (l:=false) hE hm3 (by simpa using hS2) Hg3.out Ho.out
 have d2:(v.kind==2)=false:=by simp[e2]
 have Hs:Hid (jW v=none):=hJ (by simp[jW,e0,e1,e2,zcR,xM])
 go_wp2_with fail
 refine (zbW _).mono ?_
 rintro e w' ⟨rfl,rfl⟩
 exact ⟨rfl,xU hE hm1 Hs.out⟩
theorem zmX (w:World) (S T:Nat→Prop) (b:Nat) (bs t:List UInt8) (long:Bool) (v:Value) (h:Wr w S b bs long) (hl:bs.length≤900000000) (ht:Byt w T v t) (hd:∀ g,T g→¬ S g):
  Calls Tryz.prog 247 #[.pointer (some ⟨b,0,none⟩),v] w fun e w'=>
   e=.returned (.tuple #[])∧(∃ D L,zbT t=some (D,L)∧Wr w' (Nw S w) b (bs++D) (long||L))∧Mod S w w':=by
 by_cases h5:16384<t.length
 ·
  refine (zdW w S T b bs t long v h ht h5).mono ?_
  rintro e w' ⟨rfl,h1,h2⟩
  exact ⟨rfl,⟨[],true,by simp[zbT,h5],by simpa using h1⟩,h2⟩
 refine (zlN w S T b bs t long v h hl ht hd (by omega)).mono ?_
 rintro e w' ⟨rfl,h1,h2⟩
 exact ⟨rfl,⟨xK t,false,by simp[zbT,h5],by simpa using h1⟩,h2⟩
end Go.Proofs.YtjbkjhhjofeldaaGreat
set_option maxRecDepth 100000
set_option maxHeartbeats 2000000
namespace Go.Proofs.YtjbkjhhjofeldaaGreat
open Go.RowKit
attribute [local go_sem] yN xT
attribute [local go_sem high] zoS
theorem zc3 (t:List UInt8):∀ d l,zbT t=some (d,l)→d.length≤16400:=by
 intro d l h
 have:=zP t.length
 unfold zbT at h
 split at h <;> simp at h <;> obtain ⟨rfl,_⟩:=h
 · simp
 simp[xK];omega
theorem qC {a b:WO} {m n:Nat} (ha:∀ d l,a=some (d,l)→d.length≤m) (hb:∀ d l,b=some (d,l)→d.length≤n):∀ d l,a.seq b=some (d,l)→d.length≤m+n:=by
 intro d l h
 rcases a with _|⟨x,p⟩
 · rw[zcH] at h;cases h
 rcases b with _|⟨y,q⟩
 · rw[xM] at h;cases h
 rw[xD] at h
 simp at h
 have:=ha x p rfl
 have:=hb y q rfl
 rw[←h.1];simp;omega
theorem zaV {x:List UInt8} {n:Nat} (h:x.length≤n):∀ d l,zcR x=some (d,l)→d.length≤n:=by
 intro d l e;simp[zcR] at e;rw[←e.1];exact h
theorem zb5 (b:Bool):∀ d l,qB b=some (d,l)→d.length≤0:=by
 intro d l e;unfold qB at e;split at e <;> simp at e;obtain ⟨rfl,_⟩:=e;simp
theorem zeY (v:yO):∀ d l,jW v=some (d,l)→d.length≤20000:=by
 intro d l h
 have h0:∀ x,(zcR (yM v.kind)).seq x=jW v→(∀ d l,x=some (d,l)→d.length≤19000)→d.length≤20000:=by
  intro x hx hl
  have:=qC (zaV (zP v.kind)) hl d l (hx.trans h)
  omega
 refine h0 _ rfl ?_
 intro d l h
 split at h
 · have:=zb5 _ d l h;omega
 split at h
 · have:=qC (zb5 _) (zaV (n:=8) (by simp[qA,hib])) d l h;omega
 split at h
 · have:=qC (zb5 _) (zc3 _) d l h;omega
 cases h
theorem wi_call (w:World) (S:Nat→Prop) (b:Nat) (bs:List UInt8) (long:Bool) (c:zW) (h:St w S b bs long) (hv:c.ok) (hb:bs.length≤898000000):
  Calls Tryz.prog 454 #[.pointer (some ⟨b,0,none⟩),.agg #[.int .i64 c.client,.int .i64 c.seq,.int .i64 c.cmd.kind,.string c.cmd.key,.int .i64 c.cmd.old.kind,.float .f64 c.cmd.old.num,.string c.cmd.old.text,.int .i64 c.cmd.val.kind,.float .f64 c.cmd.val.num,.string c.cmd.val.text]] w (zn2 w S b bs long (zh2 c)):=by
 obtain ⟨hc1,hc2,hc3,hkey,hold,hval⟩:=hv
 obtain ⟨wb,hwb⟩:∃ wb,wb=w.alloc (.cells #[.int .i64 c.client,.int .i64 c.seq,.int .i64 c.cmd.kind,.string c.cmd.key,.int .i64 c.cmd.old.kind,.float .f64 c.cmd.old.num,.string c.cmd.old.text,.int .i64 c.cmd.val.kind,.float .f64 c.cmd.val.num,.string c.cmd.val.text] 29):=⟨_,rfl⟩
 have hE:Ext w wb:=by rw[hwb];exact (Mod.refl _ w).alloc _
 have hSb:=h.of_ext hE
 have hnS:¬ S w.heap.size:=fun hs=>by have:=h.2 _ hs;omega
 have hcs:∀ w1,Mod S wb w1→∀ j u,(#[.int .i64 c.client,.int .i64 c.seq,.int .i64 c.cmd.kind,.string c.cmd.key,.int .i64 c.cmd.old.kind,.float .f64 c.cmd.old.num,.string c.cmd.old.text,.int .i64 c.cmd.val.kind,.float .f64 c.cmd.val.num,.string c.cmd.val.text]:Array Value)[j]? = some u→w1.cell? ⟨w.heap.size,j,none⟩=some u:=by
  intro w1 hm j u hu
  refine hm.cell ?_ hnS
  rw[hwb,cell_of_row _ _ _ _ _ _ (heap_alloc_new w _)]
  exact hu
 have hsz:wb.heap.size=w.heap.size+1:=by rw[hwb];simp
 obtain ⟨Hwb,Hcs,Hsz⟩:=hJ3 hwb hcs hsz
 have Hc:=hJ (And.intro hc1 (And.intro hc2 (And.intro hc3 (And.intro hkey (And.intro hold hval)))))
 have hlI:=yS [c.client,c.seq,c.cmd.kind]
 have Hs:Hid (zh2 c=(((zcR (zY [c.client,c.seq,c.cmd.kind])).seq (zbT (zbC c.cmd.key))).seq (jW c.cmd.old)).seq (jW c.cmd.val)):=hJ rfl
 obtain ⟨I,hI⟩:∃ I,zY [c.client,c.seq,c.cmd.kind]=I:=⟨_,rfl⟩
 rw[hI] at Hs hlI
 have HI:=hJ hI
 clear hwb hcs hsz hc1 hc2 hc3 hkey hold hval hI
 simp only[List.length_cons,List.length_nil] at hlI
 go_enter Tryz.func454,Tryz.ntmps454
 go_wp2_with fail
 rw[←Hwb.out]
 have hE1:Ext wb (wb.alloc (.cells #[.int .i64 c.client,.int .i64 c.seq,.int .i64 c.cmd.kind] 3)):=(Mod.refl _ wb).alloc _
 have hsl:Sl (wb.alloc (.cells #[.int .i64 c.client,.int .i64 c.seq,.int .i64 c.cmd.kind] 3)) (fun g=>wb.heap.size≤g) 1 (.slice (some ⟨wb.heap.size,0,none⟩) 3 3) 3 ([c.client,c.seq,c.cmd.kind].map (Value.int .i64)):=
  Sl.of_own (base:=0) (e:=3) (World.ownsRow_lit wb _ 3 (Nat.zero_le _) (by simp[maxLen]) rfl) (fun g hg=>by simp[Value.ownBlock] at hg;omega)
 rw[Hsz.out] at hsl
 refine (ziB _ S _ b bs long _ [c.client,c.seq,c.cmd.kind] (hSb.of_ext hE1) hsl (fun g h1 h2=>by have:=hSb.2 g h2;rw[Hsz.out] at this;omega) (by have:=Hc.out;simp;exact ⟨this.1,this.2.1,this.2.2.1⟩) (by simp) (by omega)).mono ?_
 rintro e w1 ⟨hm1,rfl,S1,hS1,hg1⟩
 rw[HI.out,Bool.or_false] at hS1
 have hm1:Mod S wb w1:=(hE1.mod S).self hm1
 have Hg1:Hid (∀ k,S1 k→S k∨wb.heap.size≤k):=hJ (fun k hk=>(hg1 k hk).imp id (fun h=>Nat.le_trans hE1.size h))
 clear hg1 hE1 hsl
 have x3:=Hcs.out w1 hm1 3 _ rfl
 have hbe:=bw_ext w1.drew 5 c.cmd.key
 have hbb:=bw_byt w1.drew 5 c.cmd.key Hc.out.2.2.2.1
 have hSt:St (Lib.bytesWorld w1.drew 5 c.cmd.key) S1 b (bs++I) long:=St.of_ext (w:=w1.drew) hS1 hbe
 have hm1b:Mod S wb (Lib.bytesWorld w1.drew 5 c.cmd.key):=hm1.drew.ext hbe
 have hsb:=hm1b.size
 have hln:(zbC c.cmd.key).length=c.cmd.key.size:=rfl
 have hdis:∀ g,w1.drew.heap.size≤g→¬ S1 g:=fun g h1 h2=>by have h3:=hS1.2 g h2;have h4:w1.heap.size≤g:=h1;omega
 have h5:(16384<c.cmd.key.size∧zbT (zbC c.cmd.key)=some ([],true))∨(¬ 16384<c.cmd.key.size∧zbT (zbC c.cmd.key)=some (xK (zbC c.cmd.key),false)):=by
  by_cases h:16384<c.cmd.key.size
  · exact .inl ⟨h,by simp[zbT,hln,h]⟩
  exact .inr ⟨h,by simp[zbT,hln,h]⟩
 rcases h5 with ⟨h5,hT⟩|⟨h5,hT⟩
 case' inl=>
  have HT:=hJ hT
  clear hT
  go_wp2_with fail
  go_region_with
   ((go_at_call 247
     refine (zdW _ S1 _ b (bs++I) (zbC c.cmd.key) long _ hSt.1 hbb (by rw[hln];exact h5)).mono ?_
     rintro e w2 ⟨rfl,hW2,hm2⟩))
  obtain ⟨S2,hS2,hg2⟩:=ziA hW2
  obtain ⟨D,hD⟩:∃ D:List UInt8,D=[]:=⟨_,rfl⟩
  obtain ⟨L,hL⟩:∃ L:Bool,L=true:=⟨_,rfl⟩
  have hS2:St w2 S2 b (bs++(I++D)) (long||L):=by rw[hD,hL];simpa using hS2
  have HT:Hid (zbT (zbC c.cmd.key)=some (D,L)):=hJ (by rw[HT.out,hD,hL])
 case' inr=>
  have HT:=hJ hT
  clear hT
  go_wp2_with fail
  go_region_with
   ((go_at_call 247
     refine (zlN _ S1 _ b (bs++I) (zbC c.cmd.key) long _ hSt.1 (by simp;omega) hbb hdis (by rw[hln];omega)).mono ?_
     rintro e w2 ⟨rfl,hW2,hm2⟩))
  obtain ⟨S2,hS2,hg2⟩:=ziA hW2
  obtain ⟨D,hD⟩:∃ D:List UInt8,D=xK (zbC c.cmd.key):=⟨_,rfl⟩
  obtain ⟨L,hL⟩:∃ L:Bool,L=false:=⟨_,rfl⟩
  have hS2:St w2 S2 b (bs++(I++D)) (long||L):=by rw[hD,hL];simpa using hS2
  have HT:Hid (zbT (zbC c.cmd.key)=some (D,L)):=hJ (by rw[HT.out,hD,hL])
 all_goals
  have hDl:=zc3 _ _ _ HT.out
  have hm3:=zb4 hm1b hm2 Hg1.out
  have hg3:=jN Hg1.out hg2 hsb
  have Hg3:=hJ hg3
  have y4:=Hcs.out w2 hm3 4 _ rfl
  have y5:=Hcs.out w2 hm3 5 _ rfl
  have y6:=Hcs.out w2 hm3 6 _ rfl
  clear hg3 hg2 hD hL x3 hW2 hm2 hm1b hSt hbb hbe hdis
  go_wp2_with fail
  refine (zlZ w2 S2 b _ _ c.cmd.old hS2 Hc.out.2.2.2.2.1 (by simp;omega)).mono ?_
  rintro e w3 ⟨hm4,h4⟩
  have hm5:=zb4 hm3 hm4 Hg3.out
  rcases hV:jW c.cmd.old with _|⟨D2,L2⟩
  · rw[hV] at h4
    subst h4
    exact ⟨rfl,xU hE hm5 (by rw[Hs.out,hV];simp[zcR,HT.out,xD,zcH,xM])⟩
  rw[hV] at h4
  obtain ⟨rfl,S3,hS3,hg3⟩:=h4
  have hV2:=zeY _ _ _ hV
  have HV:=hJ hV
  have hg5:=jN Hg3.out hg3 hm3.size
  have Hg5:=hJ hg5
  have z7:=Hcs.out w3 hm5 7 _ rfl
  have z8:=Hcs.out w3 hm5 8 _ rfl
  have z9:=Hcs.out w3 hm5 9 _ rfl
  clear hg5 hg3 hV
  go_wp2_with fail
  refine (zlZ w3 S3 b _ _ c.cmd.val hS3 Hc.out.2.2.2.2.2 (by simp;omega)).mono ?_
  rintro e w4 ⟨hm6,h6⟩
  have hm7:=zb4 hm5 hm6 Hg5.out
  rcases hU:jW c.cmd.val with _|⟨D3,L3⟩
  · rw[hU] at h6
    subst h6
    exact ⟨rfl,xU hE hm7 (by rw[Hs.out,hU,HV.out];simp[zcR,HT.out,xD,xM])⟩
  rw[hU] at h6
  obtain ⟨rfl,S4,hS4,hg4⟩:=h6
  have hg6:=jN Hg5.out hg4 hm5.size
  obtain ⟨Hg6,HU⟩:=hJ2 hg6 hU
  clear hg6 hg4 hU
  go_wp2
  go_end0
  exact jO (d:=((I++D)++D2)++D3) (l:=(L||L2)||L3) hE hm7 (by simpa [Bool.or_assoc] using hS4) Hg6.out (by rw[Hs.out,HU.out,HV.out];simp[zcR,HT.out,xD])
end Go.Proofs.YtjbkjhhjofeldaaGreat
