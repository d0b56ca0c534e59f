/-
 Contracts of wire.Entry, and of the laws' wakes. Conditions: as each theorem names them.
-/
import Derived.Test.YtjbkjhhjofeldaaGreatG12
set_option maxRecDepth 100000
set_option maxHeartbeats 2000000
namespace Go.Proofs.YtjbkjhhjofeldaaGreat
open Go.RowKit
theorem zo8 (W:World) (p b:Nat) (x:zO) (hx:x.ok) (hc:∀ j u,x.cells[j]? = some u→W.cell? ⟨p,j,none⟩=some u) (hs:St W (fun k=>k=b) b [] false):
  Calls Tryz.prog 440 #[.pointer (some ⟨b,0,none⟩),.pointer (some ⟨p,0,none⟩)] W (zn2 W (fun k=>k=b) b [] false (jF x)):=by
 have x0:=hc 0 _ rfl
 have x1:=hc 1 _ rfl
 have x2:=hc 2 _ rfl
 have x3:=hc 3 _ rfl
 have x4:=hc 4 _ rfl
 have x5:=hc 5 _ rfl
 have x6:=hc 6 _ rfl
 have x7:=hc 7 _ rfl
 have x8:=hc 8 _ rfl
 have x9:=hc 9 _ rfl
 have x10:=hc 10 _ rfl
 have x11:=hc 11 _ rfl
 have x12:=hc 12 _ rfl
 have x13:=hc 13 _ rfl
 have x14:=hc 14 _ rfl
 have x15:=hc 15 _ rfl
 have Hx:=hJ hx
 clear hc hx
 go_enter Tryz.func440,Tryz.ntmps440
 go_wp2_with fail
 refine (zl1 W (fun k=>k=b) b [] false x hs Hx.out (by simp)).mono ?_
 rintro e w1 ⟨hm,h1⟩
 rcases hV:jF x with _|⟨D,L⟩
 ·
  rw[hV] at h1
  subst h1
  exact ⟨rfl,xU (Mod.refl _ W) hm hV⟩
 rw[hV] at h1
 obtain ⟨rfl,S1,hS1,hg1⟩:=h1
 obtain ⟨HS1,Hg1,HV⟩:=hJ3 hS1 hg1 hV
 clear hS1 hg1 hV
 go_wp2
 go_end0
 exact jO (Mod.refl _ W) hm HS1.out Hg1.out HV.out
theorem ziI (w:World) (x:zO) (hx:x.ok):
  Calls Tryz.prog 407 #[.agg #[.int .i64 x.term,.int .i64 x.kind,.int .i64 x.call.client,.int .i64 x.call.seq,.int .i64 x.call.cmd.kind,.string x.call.cmd.key,.int .i64 x.call.cmd.old.kind,.float .f64 x.call.cmd.old.num,.string x.call.cmd.old.text,.int .i64 x.call.cmd.val.kind,.float .f64 x.call.cmd.val.num,.string x.call.cmd.val.text,.int .i64 x.conf.full,.int .i64 x.conf.wit,.int .i64 x.conf.learn,.int .i64 x.conf.learnWit]] w (zbI w (jF x)):=by
 have hmf:∀ (fn:Fn) (first cap:Array Value) (w:World),(Instr.makeFunc fn first cap).run Tryz.prog w=.ok (.func fn first cap) w:=fun _ _ _ _=>rfl
 obtain ⟨W,hW⟩:∃ W,W=w.alloc (.cells #[.int .i64 x.term,.int .i64 x.kind,.int .i64 x.call.client,.int .i64 x.call.seq,.int .i64 x.call.cmd.kind,.string x.call.cmd.key,.int .i64 x.call.cmd.old.kind,.float .f64 x.call.cmd.old.num,.string x.call.cmd.old.text,.int .i64 x.call.cmd.val.kind,.float .f64 x.call.cmd.val.num,.string x.call.cmd.val.text,.int .i64 x.conf.full,.int .i64 x.conf.wit,.int .i64 x.conf.learn,.int .i64 x.conf.learnWit] 100):=⟨_,rfl⟩
 have hE:Ext w W:=by rw[hW];exact (Mod.refl _ w).alloc _
 have hc:∀ j u,x.cells[j]? = some u→W.cell? ⟨w.heap.size,j,none⟩=some u:=by
  intro j u hu
  rw[hW,cell_of_row _ _ _ _ _ _ (heap_alloc_new w _)]
  simpa using hu
 have hsz:W.heap.size=w.heap.size+1:=by rw[hW];simp
 obtain ⟨HW,Hc,Hsz,Hx⟩:=hJ4 hW hc hsz hx
 clear hW hc hsz hx
 go_enter Tryz.func407,Tryz.ntmps407
 go_wp2_with fail
 rw[←HW.out]
 refine (zgB 440 w.heap.size W (jF x) (fun _ _=>by kernel_rfl) (fun d l h=>by have:=zhN x d l h;omega) (fun W' b hE' hb hS=>?_)).mono ?_
 · exact zo8 W' w.heap.size b x Hx.out (fun j u hu=>hE'.cell (Hc.out j u hu) id) hS
 rintro e w1 ⟨v,rfl,hN,hE1⟩
 have HN:=hJ hN
 have HE:=hJ (Mod.ext hE hE1)
 clear hN hE1
 go_wp2
 go_ret2
 exact ⟨v,rfl,⟨HN.out.1,fun g hg=>by have:=HN.out.2 g hg;have:=Hsz.out;omega⟩,HE.out⟩
set_option linter.unusedSimpArgs false
def zn3 (k:UInt8) (b:List UInt8):List UInt8×Int:=if 16384<b.length+1 then ([],2) else (yP (k :: b),0)
theorem zgG (w:World) (T:Nat→Prop) (A:Option Addr) (n c:Nat) (kv:Int) (k:UInt8) (b:List UInt8) (hk:kv=(k.toNat:Int)) (h:Byt w T (.slice A n c) b) (hn:b.length=n) (hnl:n≤1000000):
  Calls Tryz.prog 288 #[.int .u8 kv,.slice A n c] w fun e w'=>∃ v,e=.returned (.tuple #[v,.int .i64 (zn3 k b).2])∧zaN w w' v (zn3 k b).1∧Ext w w':=by
 subst hk
 obtain ⟨w1,hw1⟩:∃ w1,w.alloc (.cells #[.int .u8 (k.toNat:Int)] 5)=w1:=⟨_,rfl⟩
 have hN1:zaN w w1 (.slice (some ⟨w.heap.size,0,none⟩) 1 1) [k]:=by rw[←hw1];exact zl5 w [k] 1 _ rfl (by decide) rfl
 have hE1:Ext w w1:=by rw[←hw1];exact (Mod.refl _ w).alloc _
 have hb:=h.ext hE1
 rw[←hw1] at hN1 hE1 hb
 obtain ⟨HN1,HE1,Hn,Hb⟩:=hJ4 hN1 hE1 hn hb
 clear hw1 hN1 hE1 hn h hb
 go_enter Tryz.func288,Tryz.ntmps288
 go_wp2_with (at_builtin;refine jI rfl _ _ rfl (.slice (some ⟨w.heap.size,0,none⟩) 1 1) [k] w rfl HN1.out HE1.out T _ b rfl Hb.out (by rw[Hn.out];simp only[List.length_cons,List.length_nil];omega) ?_)
 rintro A5 n5 c5 w5 hn5 hN5 hE5 _ _
 have hl5:(k :: b).length=n5:=by rw[hn5];rfl
 have hn6:n5=n+1:=by rw[←hl5,List.length_cons,Hn.out]
 have hb5:Byt w5 (zD w.heap.size) (.slice A5 n5 c5) (k :: b):=zaN.sl (w:=w) hN5
 obtain ⟨HE5,Hn6⟩:=hJ2 hE5 hn6
 clear hN5 hn5 hE5 hn6
 by_cases hL:16384<n5
 ·
  have Hr:Hid (zn3 k b=([],2)):=hJ (by unfold zn3;rw[if_pos (by rw[Hn.out,←Hn6.out];exact hL)])
  go_wp2_with fail
  refine (zjU w5 A5 n5 c5 hL).mono ?_
  rintro e w6 ⟨rfl,rfl⟩
  go_wp2
  go_ret2
  rw[Hr.out]
  exact ⟨_,rfl,⟨World.ownsRow_nil _ _ _ _,by simp[Value.ownBlock]⟩,HE5.out⟩
 have Hr:Hid (zn3 k b=(yP (k :: b),0)):=hJ (by unfold zn3;rw[if_neg (by rw[Hn.out,←Hn6.out];exact hL)])
 obtain ⟨Hl5,Hb5⟩:=hJ2 hl5 hb5
 clear hl5 hb5
 go_wp2_with fail
 refine (fr_seal w5 _ A5 n5 c5 (k :: b) Hb5.out Hl5.out (by omega)).mono ?_
 rintro e w6 ⟨A6,c6,rfl,hN6,hE6⟩
 have HN6:=hJ (hN6.up HE5.out)
 have HE6:=hJ (HE5.out.ext hE6)
 clear hN6 hE6
 go_wp2
 go_ret2
 rw[Hr.out]
 exact ⟨_,rfl,HN6.out,HE6.out⟩
theorem zhP (w:World) (T:Nat→Prop) (A:Option Addr) (m c:Nat) (kv:Int) (k:UInt8) (l:List Int) (hk:kv=(k.toNat:Int)) (h:Sl w T 1 (.slice A m c) m (l.map (Value.int .i64))) (hm:l.length=m) (hml:m≤3) (hi:∀ n∈l,I64 n):
  Calls Tryz.prog 405 #[.int .u8 kv,.slice A m c] w fun e w'=>∃ v,e=.returned v∧zaN w w' v (yP (k :: zY l))∧Ext w w':=by
 subst hk
 obtain ⟨w1,hw1⟩:∃ w1,w.alloc (.cells #[.slice none 0 0,.bool false] 289)=w1:=⟨_,rfl⟩
 have hW:Wr w1 (zD w.heap.size) w.heap.size [] false:=by
  rw[←hw1]
  exact ⟨.slice none 0 0,289,heap_alloc_new w _,World.ownsRow_nil _ _ _ _,Nat.le_refl _,by simp[Value.ownBlock]⟩
 have hE1:Ext w w1:=by rw[←hw1];exact (Mod.refl _ w).alloc _
 obtain ⟨Hw1,Hm,Hi,H,HW,HE1⟩:=hJ6 hw1 hm hi h hW hE1
 clear hw1 hW hE1 hm hi h
 go_enter Tryz.func405,Tryz.ntmps405
 go_wp2_with fail
 rw[Hw1.out]
 go_loopw [14] (fun iv wr=>∃ i:Nat,i≤m∧iv=.int .i64 i∧Wr wr (zD w.heap.size) w.heap.size (zY (l.take i)) false∧Ext w wr) (fun iv _=>m-(intOf iv).toNat)
 case atStart=>exact ⟨0,by omega,rfl,HW.out,HE1.out⟩
 obtain ⟨i,him,rfl,hWr,hEr⟩:=hrel
 obtain ⟨HWr,HEr⟩:=hJ2 hWr hEr
 have hbl:(zY (l.take i)).length≤100:=by
  have h1:∀ q:List Int,(zY q).length≤10*q.length:=fun q=>by
   induction q with
   | nil=>simp[zY]
   | cons x q ih=>
    have:=zP x
    unfold zY at ih ⊢
    simp only[List.flatMap_cons,List.length_append,List.length_cons]
    omega
  have:=h1 (l.take i)
  rw[List.length_take,Hm.out] at this
  omega
 clear hWr hEr
 by_cases him2:i<m
 ·
  have hx:∃ x,l[i]? = some x:=⟨_,List.getElem?_eq_getElem (by rw[Hm.out];exact him2)⟩
  obtain ⟨x,hx⟩:=hx
  have hs:=(H.out.ext HEr.out)
  obtain ⟨_,A',c',e,_,_,hcell⟩:=hs
  injection e with e1 _ e3
  subst e1;subst e3
  obtain ⟨g,off,rfl,_,hcell⟩:=hcell (by omega)
  have x0:=hcell i _ (by rw[List.getElem?_map,hx];rfl)
  have hxi:=Hi.out x (List.mem_of_getElem? hx)
  have ht:zY (l.take (i+1))=zY (l.take i)++yM x:=by
   obtain ⟨h1,h2⟩:=List.getElem?_eq_some_iff.1 hx
   rw[List.take_succ_eq_append_getElem h1,h2]
   unfold zY
   rw[List.flatMap_append]
   simp
  have Ht:=hJ ht
  have i0:(0:Int)≤(i:Int):=by omega
  have i1:(i:Int)<(m:Int):=by omega
  clear hcell hx ht
  go_wp2_with fail
  refine (zmR wr (zD w.heap.size) w.heap.size _ false x HWr.out (by omega) hxi.1 hxi.2).mono ?_
  rintro e w3 ⟨rfl,hW3,hm3⟩
  have HW3:Hid (Wr w3 (zD w.heap.size) w.heap.size (zY (l.take (i+1))) false):=hJ (by rw[Ht.out];exact Wr.since hW3 HEr.out.size)
  have HE3:Hid (Ext w w3):=hJ (Mod.toExt ((Ext.mod HEr.out (zD w.heap.size)).self hm3))
  clear hW3 hm3 x0
  go_wp2_with fail
  go_roundw
  case rel=>
   exact ⟨i+1,by omega,by go_num,HW3.out,HE3.out⟩
  case measure=>simp[intOf];omega
 have e:l.take i=l:=List.take_of_length_le (by rw[Hm.out];omega)
 rw[e] at HWr hbl
 have hd:decide ((i:Int)<(m:Int))=false:=by simp;omega
 go_wp2_with fail
 refine (zkJ wr _ _ _ HWr.out (by omega)).mono ?_
 rintro e w3 ⟨v,rfl,hN3,hE3⟩
 obtain ⟨A3,c3,rfl⟩:=zC hN3.1
 obtain ⟨q,hq⟩:∃ q,(zY l).length=q:=⟨_,rfl⟩
 have hb3:Byt w3 (zD wr.heap.size) (.slice A3 (zY l).length c3) (zY l):=zaN.sl (w:=wr) hN3
 rw[hq] at hb3 hbl ⊢
 obtain ⟨Hq,Hb3⟩:=hJ2 hq hb3
 have HE3:=hJ (HEr.out.ext hE3)
 clear hN3 hE3 hq hb3
 go_wp2_with fail
 refine (zgG w3 _ A3 q c3 _ k (zY l) rfl Hb3.out Hq.out (by omega)).mono ?_
 rintro e w4 ⟨v4,rfl,hN4,hE4⟩
 have Hr:Hid (zn3 k (zY l)=(yP (k :: zY l),0)):=hJ (by unfold zn3;rw[if_neg (by rw[Hq.out];omega)])
 rw[Hr.out] at hN4 ⊢
 have HN4:=hJ (hN4.up HE3.out)
 have HE4:=hJ (HE3.out.ext hE4)
 clear hN4 hE4
 go_wp2
 go_ret
 exact ⟨v4,rfl,HN4.out,HE4.out⟩
theorem zo9 (w:World) (s:Value) (x:Int):
  Calls Tryz.prog 121 #[s,.int .i64 x] w fun e w'=>e=.returned (.tuple #[if x=0 then s else .pointer none,.int .i64 x])∧w=w':=by
 by_cases h:x=0
 ·
  subst h
  rw[if_pos rfl]
  go_enter Tryz.func121,Tryz.ntmps121
  go_wp2
  go_ret2
  exact ⟨rfl,rfl⟩
 rw[if_neg h]
 have hb:(x != 0)=true:=by simpa using h
 go_enter Tryz.func121,Tryz.ntmps121
 go_wp2
 go_ret2
 exact ⟨rfl,rfl⟩
theorem zpA (w:World) (a b:zO) (ha:a.ok) (hb:b.ok):
  Calls Tryz.prog 406 #[.agg #[.int .i64 a.term,.int .i64 a.kind,.int .i64 a.call.client,.int .i64 a.call.seq,.int .i64 a.call.cmd.kind,.string a.call.cmd.key,.int .i64 a.call.cmd.old.kind,.float .f64 a.call.cmd.old.num,.string a.call.cmd.old.text,.int .i64 a.call.cmd.val.kind,.float .f64 a.call.cmd.val.num,.string a.call.cmd.val.text,.int .i64 a.conf.full,.int .i64 a.conf.wit,.int .i64 a.conf.learn,.int .i64 a.conf.learnWit],.agg #[.int .i64 b.term,.int .i64 b.kind,.int .i64 b.call.client,.int .i64 b.call.seq,.int .i64 b.call.cmd.kind,.string b.call.cmd.key,.int .i64 b.call.cmd.old.kind,.float .f64 b.call.cmd.old.num,.string b.call.cmd.old.text,.int .i64 b.call.cmd.val.kind,.float .f64 b.call.cmd.val.num,.string b.call.cmd.val.text,.int .i64 b.conf.full,.int .i64 b.conf.wit,.int .i64 b.conf.learn,.int .i64 b.conf.learnWit]] w fun e w'=>e=.returned (.bool (sameB a b))∧Ext w w':=by
 obtain ⟨W,hW⟩:∃ W,W=(w.alloc (.cells a.cells.toArray 100)).alloc (.cells b.cells.toArray 100):=⟨_,rfl⟩
 obtain ⟨hA,hB,hsz⟩:=zo2 w (.cells a.cells.toArray 100) (.cells b.cells.toArray 100)
 rw[←hW] at hA hB hsz
 have hE:Ext w W:=by rw[hW];exact ((Mod.refl _ w).alloc _).alloc _
 have hla:=ld0 (P:=Tryz.prog) (cs:=a.cells) yR hA
 obtain ⟨HW,HB,HE⟩:=hJ3 hW hB hE
 clear hA hB hW hE hsz
 go_enter Tryz.func406,Tryz.ntmps406
 go_wp2_with (rw[←HW.out];refine yT rfl 100 _ rfl _ _ rfl hla ?_)
 clear hla
 refine (ziI W a ha).mono ?_
 rintro e w1 ⟨v1,rfl,hN1,hE1⟩
 obtain ⟨A1,c1,rfl⟩:=zC hN1.1
 have hlb:=ld0 (P:=Tryz.prog) (cs:=b.cells) yR (hE1.blk HB.out id)
 have Hb1:Hid (Byt w1 (zD W.heap.size) (.slice A1 _ c1) (told (jF a)).1):=hJ (zaN.sl (w:=W) hN1)
 have HE1:=hJ (HE.out.ext hE1)
 clear hN1 hE1
 go_wp2_with (refine yT rfl 100 _ rfl _ _ rfl hlb ?_)
 clear hlb
 refine (ziI w1 b hb).mono ?_
 rintro e w2 ⟨v2,rfl,hN2,hE2⟩
 obtain ⟨A2,c2,rfl⟩:=zC hN2.1
 have Hb2:Hid (Byt w2 (zD w1.heap.size) (.slice A2 _ c2) (told (jF b)).1):=hJ (zaN.sl (w:=w1) hN2)
 have Hb1:=hJ (Hb1.out.ext hE2)
 have HE2:=hJ (HE1.out.ext hE2)
 clear hN2 hE2
 go_wp2_with fail
 refine (zo3 w2 _ _ _ _ _ _ Hb1.out Hb2.out).mono ?_
 rintro e w3 ⟨rfl,rfl⟩
 go_wp2
 go_ret
 exact ⟨rfl,HE2.out⟩
end Go.Proofs.YtjbkjhhjofeldaaGreat
