/-
 Contracts of skerrylaw10.HeavyMsg. Conditions: as each theorem names them.
-/
import Derived.Test.YtjbkjhhjofeldaaGreatK1
import Derived.StillTailTactics
set_option maxRecDepth 100000
set_option maxHeartbeats 4000000
namespace Go.Proofs.YtjbkjhhjofeldaaGreat
set_option linter.unusedSimpArgs false
set_option linter.unusedVariables false
open Go.RowKit
def heavyEnts (l:List zO):Bool:=decide (200<l.length)||l.any fun x=>zdK x.call.cmd
theorem any_take_step {α:Type} {p:α→Bool} {l:List α} {i:Nat} {x:α} (h:(l.take i).any p=false) (hx:l[i]? = some x) (e:p x=false):(l.take (i+1)).any p=false:=by
 obtain ⟨hi,rfl⟩:=List.getElem?_eq_some_iff.1 hx
 rw[List.take_succ_eq_append_getElem hi,List.any_append,h];simp[e]
theorem any_yes {α:Type} {p:α→Bool} {l:List α} {i:Nat} {x:α} (hx:l[i]? = some x) (e:p x=true):l.any p=true:=
 List.any_eq_true.2 ⟨x,List.mem_of_getElem? hx,e⟩
theorem hv_entries (w:World) (T:Nat→Prop) (v:Value) (l:List zO) (h:zoU w T v l):
  Calls Tryz.prog 149 #[v] w fun e w'=>e=.returned (.bool (heavyEnts l))∧Ext w w':=by
 have hl:=h.1.le
 unfold maxLen at hl
 obtain ⟨n,hn⟩:∃ n,l.length=n:=⟨_,rfl⟩
 obtain ⟨A,c,rfl⟩:=h.1.form
 rw[hn] at h hl ⊢
 have Hn:=hJ hn
 by_cases h200:200<n
 ·
  have d:decide ((200:Int)<(n:Int))=true:=by simp;omega
  have Hf:Hid (heavyEnts l=true):=hJ (by simp[heavyEnts,hn,h200])
  clear hn
  go_enter Tryz.func149,Tryz.ntmps149
  go_wp2
  go_ret
  exact ⟨yC Hf.out.symm,Mod.refl _ w⟩
 have d:decide ((200:Int)<(n:Int))=false:=by simp;omega
 have Hd:Hid (decide (200<l.length)=false):=hJ (by rw[hn];simpa using h200)
 clear hn
 go_enter Tryz.func149,Tryz.ntmps149
 go_wp2
 go_loopw [3] (fun iv wr=>∃ i:Nat,i≤n∧iv=.int .i64 i∧Ext w wr∧(l.take i).any (fun x=>zdK x.call.cmd)=false) (fun iv _=>n-(intOf iv).toNat)
 case atStart=>exact ⟨0,by omega,rfl,Mod.refl _ w,by simp⟩
 obtain ⟨i,hin,rfl,hE,hs⟩:=hrel
 have Hs:=hJ hs
 have h2:=h.mod hE (fun _ _=>id)
 clear hs
 by_cases hi:i<n
 ·
  obtain ⟨g,off,x,rfl,hgT,hx,hxok,hcells⟩:=h2.at hi
  have hi0:(0:Int)≤(i:Int):=by omega
  have hi1:(i:Int)<(n:Int):=by omega
  have x4:=hcells 4 _ rfl
  have x5:=hcells 5 _ rfl
  have x6:=hcells 6 _ rfl
  have x7:=hcells 7 _ rfl
  have x8:=hcells 8 _ rfl
  have x9:=hcells 9 _ rfl
  have x10:=hcells 10 _ rfl
  have x11:=hcells 11 _ rfl
  have Hx:=hJ hx
  clear hcells hx h2 hxok
  go_wp2_with fail
  refine (hv_cmd x.call.cmd _).mono ?_
  rintro e w1 ⟨rfl,hE1⟩
  have hE1:=Mod.ext hE hE1
  have HE1:=hJ hE1
  clear hE1 x4 x5 x6 x7 x8 x9 x10 x11
  rcases hq:zdK x.call.cmd with _|_
  ·
   have Hq:=hJ hq
   clear hq
   go_wp2
   exact ⟨⟨i+1,by omega,by go_num,HE1.out,any_take_step Hs.out Hx.out Hq.out⟩,by simp[intOf];omega⟩
  have Hf:Hid (heavyEnts l=true):=hJ (by unfold heavyEnts;rw[any_yes Hx.out hq,Bool.or_true])
  go_wp2
  go_ret
  exact ⟨yC Hf.out.symm,HE1.out⟩
 have Hf:Hid (heavyEnts l=false):=hJ (by
  have:=Hs.out
  rw[List.take_of_length_le (by rw[Hn.out];omega)] at this
  unfold heavyEnts;rw[this,Hd.out];rfl)
 go_wp2
 go_ret
 exact ⟨yC Hf.out.symm,hE⟩
def SomeB (w:World) (e:Ending) (w':World):Prop:=∃ b:Bool,e=.returned (.bool b)∧Ext w w'
theorem hv_flat (h:AHead) (w:World) (T:Nat→Prop) (hk:h.ok w T):Calls Tryz.prog 83 #[.agg #[.int .i64 h.kind,.int .i64 h.src,.int .i64 h.dst,.int .i64 h.term,.int .i64 h.index,.int .i64 h.logTerm,.int .i64 h.commit,.int .i64 h.round,.bool h.yes,h.entV,.int .i64 h.conf.full,.int .i64 h.conf.wit,.int .i64 h.conf.learn,.int .i64 h.conf.learnWit,h.snapV,h.innV]] w (SomeB w):=by
 obtain ⟨_,hea,_,hsa,⟨Aa,ca,hia⟩,hla⟩:=hk
 obtain ⟨As,cs,hsv⟩:=hsa.form
 have hsl:=hsa.le
 obtain ⟨n,hn⟩:∃ n,h.snap.length=n:=⟨_,rfl⟩
 rw[hn] at hsv hsl
 unfold maxLen at hla hsl
 have hE:Ext w (w.alloc (.cells #[.int .i64 h.kind,.int .i64 h.src,.int .i64 h.dst,.int .i64 h.term,.int .i64 h.index,.int .i64 h.logTerm,.int .i64 h.commit,.int .i64 h.round,.bool h.yes,h.entV,.int .i64 h.conf.full,.int .i64 h.conf.wit,.int .i64 h.conf.learn,.int .i64 h.conf.learnWit,h.snapV,h.innV] 92)):=(Mod.refl _ w).alloc _
 rw[hsv] at hE
 rw[hsv]
 clear hsv hsa hn hia
 go_enter Tryz.func83,Tryz.ntmps83
 go_wp2_with fail
 refine (hv_entries _ T _ h.ents (hea.mod hE (fun _ _=>id))).mono ?_
 rintro e w1 ⟨rfl,hE1⟩
 obtain ⟨hc1,hf1⟩:=zaO hE1
 have hF1:Ext w w1:=Mod.ext hE hE1
 have HF1:=hJ hF1
 clear hE1 hF1
 rcases heavyEnts h.ents with _|_
 all_goals
  go_wp2
  go_ret
  exact ⟨_,rfl,HF1.out⟩
theorem hv_msg (h:AHead) (ins:List AHead) (w:World) (T:Nat→Prop) (hk:Msg3 w T h ins):Calls Tryz.prog 36 #[.agg #[.int .i64 h.kind,.int .i64 h.src,.int .i64 h.dst,.int .i64 h.term,.int .i64 h.index,.int .i64 h.logTerm,.int .i64 h.commit,.int .i64 h.round,.bool h.yes,h.entV,.int .i64 h.conf.full,.int .i64 h.conf.wit,.int .i64 h.conf.learn,.int .i64 h.conf.learnWit,h.snapV,h.innV]] w (SomeB w):=by
 obtain ⟨hok,hin,hhs,h3⟩:=hk
 have hok':=hok
 obtain ⟨_,hea,_,hsa,⟨Ai,ci,hia⟩,hla⟩:=hok'
 obtain ⟨n,hn⟩:∃ n,h.inn=n:=⟨_,rfl⟩
 rw[hn] at hia hla hin
 unfold maxLen at hla
 obtain ⟨W,hW⟩:∃ W,W=w.alloc (.cells #[.int .i64 h.kind,.int .i64 h.src,.int .i64 h.dst,.int .i64 h.term,.int .i64 h.index,.int .i64 h.logTerm,.int .i64 h.commit,.int .i64 h.round,.bool h.yes,h.entV,.int .i64 h.conf.full,.int .i64 h.conf.wit,.int .i64 h.conf.learn,.int .i64 h.conf.learnWit,h.snapV,h.innV] 92):=⟨_,rfl⟩
 have hE:Ext w W:=by rw[hW];exact (Mod.refl _ w).alloc _
 have hcI:W.cell? ⟨w.heap.size,15,none⟩=some (.slice Ai n ci):=by rw[hW,cell_of_row _ _ _ _ _ _ (heap_alloc_new w _),←hia];rfl
 have hWs:w.heap.size<W.heap.size:=by rw[hW];simp
 rw[hia] at hhs
 obtain ⟨HW,Hok,Hia,H3⟩:=hJ4 hW hok hia h3
 clear hW hok hia h3 hn hin
 go_enter Tryz.func36,Tryz.ntmps36
 go_wp2_with fail
 rw[←HW.out]
 refine (hv_flat h _ T (Hok.out.mod hE (fun _ _=>id))).mono ?_
 rintro e w1 ⟨r1,rfl,hE1⟩
 have hcI1:=hE1.cell hcI id
 have hF1:Ext w w1:=Mod.ext hE hE1
 obtain ⟨HF1,HE1⟩:=hJ2 hF1 hE1
 clear hE1 hF1 hcI
 rcases r1 with _|_
 case true=>
  go_wp2
  go_ret
  exact ⟨_,rfl,HF1.out⟩
 by_cases h20:20<n
 ·
  have d20:decide ((20:Int)<(n:Int))=true:=by simp;omega
  go_wp2
  go_ret
  exact ⟨_,rfl,HF1.out⟩
 have d20:decide ((20:Int)<(n:Int))=false:=by simp;omega
 go_wp2
 go_loopw [3] (fun iv wr=>∃ i:Nat,i≤n∧iv=.int .i64 i∧Ext w wr∧Ext w1 wr) (fun iv _=>n-(intOf iv).toNat)
 case atStart=>exact ⟨0,by omega,rfl,HF1.out,Mod.refl _ _⟩
 obtain ⟨i,hi,rfl,hX,hX1⟩:=hrel
 have hcI2:=hX1.cell hcI1 id
 have hvr:=hhs.mod hX (fun _ _=>id)
 by_cases hlt:i<n
 ·
  obtain ⟨g,off,x,rfl,hgT,hx,hxok,hcells⟩:=hvr.at hlt
  have hi0:(0:Int)≤(i:Int):=by omega
  have hi1:(i:Int)<(n:Int):=by omega
  have x0:=hcells 0 _ rfl
  have x1:=hcells 1 _ rfl
  have x2:=hcells 2 _ rfl
  have x3:=hcells 3 _ rfl
  have x4:=hcells 4 _ rfl
  have x5:=hcells 5 _ rfl
  have x6:=hcells 6 _ rfl
  have x7:=hcells 7 _ rfl
  have x8:=hcells 8 _ rfl
  have x9:=hcells 9 _ rfl
  have x10:=hcells 10 _ rfl
  have x11:=hcells 11 _ rfl
  have x12:=hcells 12 _ rfl
  have x13:=hcells 13 _ rfl
  have x14:=hcells 14 _ rfl
  have x15:=hcells 15 _ rfl
  obtain ⟨Ax,cx,hxe⟩:=hxok.2.1.1.form
  obtain ⟨Ay,cy,hxs⟩:=hxok.2.2.2.1.form
  obtain ⟨l3,hl3,hH3⟩:=H3.out x (List.mem_of_getElem? hx)
  obtain ⟨Az,cz,hxi⟩:=hxok.2.2.2.2.1
  have hxil:=hxok.2.2.2.2.2
  unfold maxLen at hxil
  obtain ⟨m,hm⟩:∃ n,x.inn=n:=⟨_,rfl⟩
  rw[hm] at hxi hxil hl3
  have hgl:g<wr.heap.size:=World.block_lt_of_cell? _ _ x0
  obtain ⟨Hok3,Hxe,Hxs,Hxi⟩:=hJ4 hxok hxe hxs hxi
  rw[hxi] at hH3
  have HH3:=hJ hH3
  rw[hxe] at x9
  rw[hxs] at x14
  rw[hxi] at x15
  clear hcells hx hvr hxok hxe hxs hxi hH3 hl3 hm
  rw[Nat.add_zero] at x0
  go_wp2_with fail
  rw[←Hxe.out,←Hxs.out,←Hxi.out]
  refine (hv_flat x _ T Hok3.out).mono ?_
  rintro e w2 ⟨r2,rfl,hE2⟩
  have hcI3:=hE2.cell hcI2 id
  have y15:=hE2.cell x15 id
  have hX2:=Mod.ext hX hE2
  have hX12:=Mod.ext hX1 hE2
  have HE2:=hJ hE2
  clear hE2 x0 x1 x2 x3 x4 x5 x6 x7 x8 x9 x10 x11 x12 x13 x14 x15
  rcases r2 with _|_
  case true=>
   go_wp2
   go_ret
   exact ⟨_,rfl,hX2⟩
  by_cases h03:3<m
  ·
   have d03:decide ((3:Int)<(m:Int))=true:=by simp;omega
   go_wp2
   go_ret
   exact ⟨_,rfl,hX2⟩
  have d03:decide ((3:Int)<(m:Int))=false:=by simp;omega
  go_wp2
  go_loopw [4] (fun kv wq=>∃ k:Nat,k≤m∧kv=.int .i64 k∧Ext w wq∧Ext w1 wq∧Ext w2 wq) (fun kv _=>m-(intOf kv).toNat)
  case atStart=>exact ⟨0,by omega,rfl,hX2,hX12,Mod.refl _ _⟩
  obtain ⟨k,hk,rfl,hZ,hZ1,hZ2⟩:=hrel
  have hcI4:=hZ2.cell hcI3 id
  have z15:=hZ2.cell y15 id
  have hvr:=HH3.out.mod hZ (fun _ _=>id)
  by_cases hkm:k<m
  ·
   obtain ⟨g',off',y,rfl,hgT',hy,hyok,hcells⟩:=hvr.at hkm
   have hk0:(0:Int)≤(k:Int):=by omega
   have hk1:(k:Int)<(m:Int):=by omega
   have x0:=hcells 0 _ rfl
   have x1:=hcells 1 _ rfl
   have x2:=hcells 2 _ rfl
   have x3:=hcells 3 _ rfl
   have x4:=hcells 4 _ rfl
   have x5:=hcells 5 _ rfl
   have x6:=hcells 6 _ rfl
   have x7:=hcells 7 _ rfl
   have x8:=hcells 8 _ rfl
   have x9:=hcells 9 _ rfl
   have x10:=hcells 10 _ rfl
   have x11:=hcells 11 _ rfl
   have x12:=hcells 12 _ rfl
   have x13:=hcells 13 _ rfl
   have x14:=hcells 14 _ rfl
   have x15:=hcells 15 _ rfl
   obtain ⟨Ax,cx,hxe⟩:=hyok.2.1.1.form
   obtain ⟨Ay,cy,hxs⟩:=hyok.2.2.2.1.form
   obtain ⟨Az,cz,hxi⟩:=hyok.2.2.2.2.1
   obtain ⟨Hok4,Hxe,Hxs,Hxi⟩:=hJ4 hyok hxe hxs hxi
   rw[hxe] at x9
   rw[hxs] at x14
   rw[hxi] at x15
   clear hcells hy hvr hyok hxe hxs hxi
   rw[Nat.add_zero] at x0
   go_wp2_with fail
   rw[←Hxe.out,←Hxs.out,←Hxi.out]
   refine (hv_flat y _ T Hok4.out).mono ?_
   rintro e w3 ⟨r3,rfl,hE3⟩
   have hZ':=Mod.ext hZ hE3
   have hZ1':=Mod.ext hZ1 hE3
   have hZ2':=Mod.ext hZ2 hE3
   have HE3:=hJ hE3
   clear hE3 x0 x1 x2 x3 x4 x5 x6 x7 x8 x9 x10 x11 x12 x13 x14 x15
   rcases r3 with _|_
   · go_wp2
     exact ⟨⟨k+1,by omega,by go_num,hZ',hZ1',hZ2'⟩,by simp[intOf];omega⟩
   go_wp2
   go_ret
   exact ⟨_,rfl,hZ'⟩
  go_wp2
  exact ⟨⟨i+1,by omega,by go_num,hZ,hZ1⟩,by simp[intOf];omega⟩
 go_wp2
 go_ret
 exact ⟨_,rfl,hX⟩
end Go.Proofs.YtjbkjhhjofeldaaGreat
