/-
 Contracts of wire.of for api.Entry, and of what it defers. Conditions: as each theorem names them.
-/
import Derived.Deep.QuietTactic
import Derived.BigQuiet
import Derived.Test.YtjbkjhhjofeldaaGreatG13
import Derived.Laws.ResultCell
namespace Go.Proofs.YtjbkjhhjofeldaaGreat
set_option linter.unusedSimpArgs false
open Go.RowKit
def zO.zero:zO:=⟨0,0,zW.zero,jB.zero⟩
set_option maxRecDepth 100000
set_option maxHeartbeats 400000
theorem own_upto {w:World} {e:TypeId} {k n m c:Nat} {A:Option Addr} {xs:List Value} (h:w.ownsRow 0 e k (.slice A n c) n xs) (hm:m≤n):w.ownsRow 0 e k (.slice A m c) m (xs.take (m*k)):=by
 refine ⟨by rw[List.length_take,h.1];exact Nat.min_eq_left (Nat.mul_le_mul_right k hm),?_⟩
 rcases h.2 with ⟨h1,h2⟩|⟨g,cap,cur,h1,hb,hh,hnc,hcm,hsz,htk⟩
 ·
  injection h1 with e1 e2 e3
  subst e1;subst e3
  have:m=0:=by omega
  subst this
  exact .inl ⟨rfl,rfl⟩
 injection h1 with e1 e2 e3
 subst e1;subst e3
 refine .inr ⟨g,c,cur,rfl,hb,hh,by omega,hcm,hsz,?_⟩
 rw[←htk,List.take_take]
 congr 1
 exact (Nat.min_eq_left (Nat.mul_le_mul_right k hm)).symm
def Dsk (w:World) (d:Nat) (fv:Value) (D:zU):Prop:=
 w.heap[d]? = some (.cells #[.int .i64 D.room,fv,.int .i64 (D.synced:Int),.bool D.off,.int .i64 (D.trip:Int),.int .i64 D.keep] 140 (0,0))∧w.ownsRow 0 5 1 fv D.file.length (D.file.map B)∧D.ok
theorem Dsk.mod {w w':World} {S:Nat→Prop} {d:Nat} {fv:Value} {D:zU} (h:Dsk w d fv D) (hm:Mod S w w') (hd:¬ S d) (hf:∀ g,fv.ownBlock=some g→¬ S g):Dsk w' d fv D:=⟨hm.blk h.1 hd,zN h.2.1 hm hf,h.2.2⟩
theorem Dsk.ext {w w':World} {d:Nat} {fv:Value} {D:zU} (h:Dsk w d fv D) (hm:Ext w w'):Dsk w' d fv D:=h.mod hm id (fun _ _=>id)
theorem Dsk.apart {w:World} {d:Nat} {fv:Value} {D:zU} (h:Dsk w d fv D):fv.ownBlock≠some d:=fun e=>zG h.2.1 e h.1 (by decide) rfl
theorem Dsk.lt {w:World} {d:Nat} {fv:Value} {D:zU} (h:Dsk w d fv D):d<w.heap.size:=(Array.getElem?_eq_some_iff.1 h.1).1
def DM (w:World) (d:Nat) (fv:Value) (D':zU) (w':World):Prop:=
 ∃ fv',Dsk w' d fv' D'∧Mod (fun k=>k=d∨fv.ownBlock=some k) w w'∧∀ g,fv'.ownBlock=some g→fv.ownBlock=some g∨w.heap.size≤g
theorem DM.same {w w':World} {d:Nat} {fv:Value} {D:zU} (h:Dsk w d fv D) (hE:Ext w w'):DM w d fv D w':=⟨fv,h.ext hE,hE.mod _,fun _ h=>.inl h⟩
theorem DM.trans {w w1 w':World} {d:Nat} {fv fv1:Value} {D':zU} (hm:Mod (fun k=>k=d∨fv.ownBlock=some k) w w1) (hf:∀ g,fv1.ownBlock=some g→fv.ownBlock=some g∨w.heap.size≤g) (h:DM w1 d fv1 D' w'):DM w d fv D' w':=by
 obtain ⟨fv',h1,h2,h3⟩:=h
 refine ⟨fv',h1,hm.trans h2 (fun i hi e=>?_),fun g hg=>?_⟩
 ·
  rcases e with e|e
  · exact .inl e
  rcases hf i e with e|e
  · exact .inr e
  omega
 rcases h3 g hg with e|e
 · exact hf g e
 exact .inr (by have:=hm.size;omega)
theorem Dsk.cells {w:World} {d:Nat} {fv:Value} {D:zU} (h:Dsk w d fv D):w.cell? ⟨d,0,none⟩=some (.int .i64 D.room)∧w.cell? ⟨d,1,none⟩=some fv∧w.cell? ⟨d,2,none⟩=some (.int .i64 (D.synced:Int))∧w.cell? ⟨d,3,none⟩=some (.bool D.off)∧w.cell? ⟨d,4,none⟩=some (.int .i64 (D.trip:Int))∧w.cell? ⟨d,5,none⟩=some (.int .i64 D.keep):=by
 simp[World.cell?,h.1]
theorem d_new (room:Int) (h0:0≤room) (h1:room≤65536) (w:World):Calls Tryz.prog 31 #[.int .i64 room] w fun e w'=>e=.returned (.tuple #[.pointer (some ⟨w.heap.size,0,none⟩),.int .i64 0])∧Dsk w' w.heap.size (.slice none 0 0) (zU.new room)∧Ext w w':=by
 have d0:decide (room<0)=false:=by simp;omega
 have d1:decide (65536<room)=false:=by simp;omega
 have hok:(zU.new room).ok:=⟨h0,h1,Nat.le_refl _,h0,by simp[zU.new],by simp[zU.new],by simp[zU.new]⟩
 have Hok:=hJ hok
 clear hok
 go_enter Tryz.func31,Tryz.ntmps31
 go_wp2
 go_ret2
 exact ⟨rfl,⟨heap_alloc_new w _,World.ownsRow_nil _ _ _ _,Hok.out⟩,(Mod.refl _ w).alloc _⟩
theorem d_off (w:World) (d:Nat) (fv:Value) (D:zU) (h:Dsk w d fv D):Calls Tryz.prog 269 #[.pointer (some ⟨d,0,none⟩)] w fun e w'=>e=.returned (.bool D.off)∧w=w':=by
 obtain ⟨c0,c1,c2,c3,c4,c5⟩:=h.cells
 clear h
 go_enter Tryz.func269,Tryz.ntmps269
 go_wp2
 go_ret
 exact ⟨rfl,rfl⟩
theorem zpB (w:World) (d:Nat) (fv:Value) (D:zU) (h:Dsk w d fv D):Calls Tryz.prog 196 #[.pointer (some ⟨d,0,none⟩)] w fun e w'=>e=.returned (.bool D.count.2)∧Dsk w' d fv D.count.1∧Mod (fun k=>k=d) w w':=by
 obtain ⟨c0,c1,c2,c3,c4,c5⟩:=h.cells
 have hok:=zU.count_ok h.2.2
 have htl:=h.2.2.2.2.2.2.1
 have f4:w.frozen? ⟨d,4,none⟩=false:=zB 4 h.1
 have H:=hJ h
 obtain ⟨t,ht⟩:∃ t,D.trip=t:=⟨_,rfl⟩
 rw[ht] at c4 htl
 by_cases h0:t=0
 ·
  have hc:D.count=(D,false):=by unfold zU.count;rw[if_pos (by omega)]
  have d0:((t:Int)==0)=true:=by simp[h0]
  have Hc:=hJ hc
  clear hc h0 ht hok
  go_enter Tryz.func196,Tryz.ntmps196
  go_wp2
  go_ret
  rw[Hc.out]
  exact ⟨rfl,H.out,Mod.refl _ _⟩
 have hc:D.count=({ D with trip:=t-1 },t==1):=by unfold zU.count;rw[if_neg (by omega),ht]
 have d0:((t:Int)==0)=false:=by simp[h0]
 have hm:Mod (fun k=>k=d) w (w.setCell ⟨d,4,none⟩ (.int .i64 ((t:Int)-1))):=zM (Mod.refl _ _) _ _
 have hR:Dsk (w.setCell ⟨d,4,none⟩ (.int .i64 ((t:Int)-1))) d fv D.count.1:=by
  rw[hc] at hok ⊢
  refine ⟨?_,zN h.2.1 hm (fun g h1 h2=>h.apart (h2▸h1)),hok⟩
  have h3:=jA h.1 4 (.int .i64 ((t:Int)-1))
  rw[show ((t:Int)-1)=((t-1:Nat):Int) by omega] at h3 ⊢
  exact h3
 obtain ⟨HR,HM⟩:=hJ2 hR hm
 have hb:(((t:Int)-1)==0)=(t==1):=by rw[Bool.eq_iff_iff];simp;omega
 obtain ⟨Hc,Hb⟩:=hJ2 hc hb
 have h0':1≤t:=by omega
 clear hR hm hc hok ht hb h h0
 rcases hq:(((t:Int)-1)==0) with _|_
 all_goals
  go_enter Tryz.func196,Tryz.ntmps196
  go_wp2
  go_ret
  exact ⟨yC (by rw[Hc.out,←hq,Hb.out]),HR.out,HM.out⟩
set_option maxHeartbeats 1000000
theorem take_map {l:List UInt8} (n:Nat):(l.map B).take (n*1)=(l.take n).map B:=by rw[Nat.mul_one,List.map_take]
theorem zkU (w:World) (d:Nat) (fv:Value) (D:zU) (h:Dsk w d fv D) (k:Int) (hk : -9223372036854775808≤k∧k≤9223372036854775807):Calls Tryz.prog 21 #[.pointer (some ⟨d,0,none⟩),.int .i64 k] w fun e w'=>e=.returned (.tuple #[])∧DM w d fv (D.crash k) w':=by
 obtain ⟨A,c,rfl⟩:=zC h.2.1
 obtain ⟨c0,c1,c2,c3,c4,c5⟩:=h.cells
 have hok:=zU.crash_ok h.2.2 k
 obtain ⟨r0,r1,sy,rl,t1,k0,k1⟩:=h.2.2
 have f1:w.frozen? ⟨d,1,none⟩=false:=zB 1 h.1
 have f2:w.frozen? ⟨d,2,none⟩=false:=zB 2 h.1
 have f3:w.frozen? ⟨d,3,none⟩=false:=zB 3 h.1
 have f4:w.frozen? ⟨d,4,none⟩=false:=zB 4 h.1
 rcases ho:D.off with _|_
 rotate_left
 ·
  rw[ho] at c3
  have ha:D.crash k={ D with trip:=0 }:=by unfold zU.crash;rw[ho];rfl
  rw[ha] at hok ⊢
  have hm:Mod (fun k=>k=d) w (w.setCell ⟨d,4,none⟩ (.int .i64 0)):=zM (Mod.refl _ _) _ _
  have hR:DM w d (.slice A D.file.length c) { D with trip:=0 } (w.setCell ⟨d,4,none⟩ (.int .i64 0)):=
   ⟨_,⟨jA h.1 4 (.int .i64 0),zN h.2.1 hm (fun g h1 h2=>h.apart (h2▸h1)),hok⟩,hm.mono (fun _ _ e=>.inl e),fun _ h=>.inl h⟩
  have HR:=hJ hR
  clear hR hm hok ha h
  go_enter Tryz.func21,Tryz.ntmps21
  go_wp2
  refine bodyPost_ret (v:=.tuple #[]) (by simp[results,Tryz.results21]) rfl ?_
  exact ⟨rfl,HR.out⟩
 rw[ho] at c3
 have ha:D.crash k={ D with trip:=0,off:=true,file:=D.file.take (D.left k),synced:=D.left k }:=by unfold zU.crash;rw[ho];rfl
 rw[ha] at hok ⊢
 obtain ⟨L,hL⟩:∃ L,D.left k=L:=⟨_,rfl⟩
 have hle:=zo5 D k sy
 rw[hL] at hok hle ⊢
 have hlen:(D.file.take L).length=L:=by rw[List.length_take];omega
 have hown:w.ownsRow 0 5 1 (.slice A L c) (D.file.take L).length ((D.file.take L).map B):=by
  have h1:=own_upto h.2.1 hle.2
  rw[take_map] at h1
  rw[hlen]
  exact h1
 have hob:∀ g,(Value.slice A L c).ownBlock=some g↔(Value.slice A D.file.length c).ownBlock=some g:=fun g=>by cases A <;> simp[Value.ownBlock]
 have hR:∀ (q:Nat) (x:Int),x=(L:Int)→DM w d (.slice A D.file.length c) { D with trip:=0,off:=true,file:=D.file.take L,synced:=L } (((((w.setCell ⟨d,4,none⟩ (.int .i64 0)).setCell ⟨d,3,none⟩ (.bool true)).drewN q).setCell ⟨d,1,none⟩ (.slice A L c)).setCell ⟨d,2,none⟩ (.int .i64 x)):=by
  rintro q x rfl
  have hm:Mod (fun k=>k=d) w (((((w.setCell ⟨d,4,none⟩ (.int .i64 0)).setCell ⟨d,3,none⟩ (.bool true)).drewN q).setCell ⟨d,1,none⟩ (.slice A L c)).setCell ⟨d,2,none⟩ (.int .i64 (L:Int))):=zM (zM (Mod.drewN (zM (zM (Mod.refl _ _) _ _) _ _) q) _ _) _ _
  refine ⟨.slice A L c,⟨?_,zN hown hm (fun g h1 h2=>h.apart (by rw[←h2];exact (hob g).1 h1)),hok⟩,hm.mono (fun _ _ e=>.inl e),fun g hg=>.inl ((hob g).1 hg)⟩
  exact jA (jA (w:=((w.setCell ⟨d,4,none⟩ (.int .i64 0)).setCell ⟨d,3,none⟩ (.bool true)).drewN q) (jA (jA h.1 4 (.int .i64 0)) 3 (.bool true)) 1 (.slice A L c)) 2 (.int .i64 (L:Int))
 obtain ⟨n,hn⟩:∃ n,D.file.length=n:=⟨_,rfl⟩
 obtain ⟨s,hs⟩:∃ s,D.synced=s:=⟨_,rfl⟩
 have hL2:(L:Int)=(s:Int)+max (min k ((n:Int)-(s:Int))) 0:=by rw[←hL,zU.left,hn,hs];omega
 have hcap:L≤c:=by
  rcases h.2.1.2 with ⟨h1,h2⟩|⟨g,cap,cur,h1,hb,hh,hnc,hcm,hsz,htk⟩
  · omega
  injection h1 with e1 e2 e3;omega
 have hcap2:n≤c:=by
  rw[←hn]
  rcases h.2.1.2 with ⟨h1,h2⟩|⟨g,cap,cur,h1,hb,hh,hnc,hcm,hsz,htk⟩
  · omega
  injection h1 with e1 e2 e3;omega
 rw[hn] at c1 rl hle sy hR ⊢
 rw[hs] at c2 sy hle
 have HR:=hJ hR
 clear hR hok ha h hown hlen hL hn hs hob
 obtain ⟨m,rfl⟩:∃ m,n=s+m:=⟨n-s,by omega⟩
 have hsub:IntKind.i64.wrap (((s+m:Nat):Int)-(s:Int))=(m:Int):=by rw[IntWalk.i64_in _ (by omega)];omega
 rcases Int.lt_or_le k 0 with hk0|hk0
 ·
  obtain rfl:L=s:=by omega
  clear hL2
  go_enter Tryz.func21,Tryz.ntmps21
  go_wp2
  go_quiet (fail)
  go_wp2
  go_region
  all_goals go_wp2
  all_goals first
   | (exfalso;omega)
   | skip
  go_end0
  exact ⟨rfl,HR.out _ _ (by omega)⟩
 obtain ⟨j,rfl⟩:=Int.eq_ofNat_of_zero_le hk0
 rcases Nat.lt_or_ge m j with hj|hj
 focus
  obtain rfl:L=s+m:=by omega
 rotate_left
 focus
  obtain rfl:L=s+j:=by omega
 all_goals
  clear hL2
  go_enter Tryz.func21,Tryz.ntmps21
  go_wp2
  go_quiet (fail)
  go_wp2
  go_region
  all_goals go_wp2
  all_goals first
   | (exfalso;omega)
   | skip
  go_end0
  exact ⟨rfl,HR.out _ _ (by omega)⟩
theorem ze1 (D:zU):D.count.1.file=D.file∧D.count.1.room=D.room∧D.count.1.off=D.off∧D.count.1.keep=D.keep∧D.count.1.synced=D.synced:=by unfold zU.count;split <;> exact ⟨rfl,rfl,rfl,rfl,rfl⟩
theorem dm_of {w w1:World} {d:Nat} {fv:Value} {D':zU} (h:Dsk w1 d fv D') (hm:Mod (fun k=>k=d) w w1):DM w d fv D' w1:=⟨fv,h,hm.mono (fun _ _ e=>.inl e),fun _ h=>.inl h⟩
theorem d_read (w:World) (d:Nat) (fv:Value) (D:zU) (h:Dsk w d fv D) (ho:D.off=false):Calls Tryz.prog 117 #[.pointer (some ⟨d,0,none⟩)] w fun e w'=>∃ v,e=.returned (.tuple #[v,.int .i64 0])∧zaN w w' v D.file∧Ext w w':=by
 obtain ⟨A,c,rfl⟩:=zC h.2.1
 obtain ⟨c0,c1,c2,c3,c4,c5⟩:=h.cells
 have hlt:=h.lt
 have hrl:(D.file.length:Int)≤65536:=by have h1:=h.2.2;unfold zU.ok at h1;omega
 rw[ho] at c3
 have hb:Byt (w.alloc (.cells #[] 5)) (fun _=>True) (.slice A D.file.length c) D.file:=((Sl.of_own h.2.1 (fun _ _=>trivial)).alloc _)
 have hN:zaN w (w.alloc (.cells #[] 5)) (.slice (some ⟨w.heap.size,0,none⟩) 0 0) []:=⟨World.ownsRow_made w #[] 0 (Nat.zero_le _) (by simp[maxLen]) rfl,fun g hg=>by simp[Value.ownBlock] at hg;omega⟩
 have hE:Ext w (w.alloc (.cells #[] 5)):=(Mod.refl _ w).alloc _
 clear h
 go_enter Tryz.func117,Tryz.ntmps117
 go_wp2_with (at_builtin;refine jI rfl _ _ rfl (.slice (some ⟨w.heap.size,0,none⟩) 0 0) [] w rfl hN hE _ _ D.file rfl hb (by simp only[List.length_nil];omega) ?_)
 intro A4 n4 c4 w4 hn4 hN4 hX4 _ _
 obtain ⟨HN4,HX4⟩:=hJ2 hN4 hX4
 clear hn4 hN4 hX4 hN hE hb
 go_wp2
 go_ret2
 exact ⟨_,rfl,by simpa using HN4.out,HX4.out⟩
theorem d_sync (w:World) (d:Nat) (fv:Value) (D:zU) (h:Dsk w d fv D):Calls Tryz.prog 351 #[.pointer (some ⟨d,0,none⟩)] w fun e w'=>e=.returned (.int .i64 D.sync.2)∧DM w d fv D.sync.1 w':=by
 have H:=hJ h
 have hokS:=zU.sync_ok h.2.2
 obtain ⟨c0,c1,c2,c3,c4,c5⟩:=h.cells
 rcases ho:D.off with _|_
 rotate_left
 ·
  have hs:D.sync=(D,4):=by unfold zU.sync;rw[ho];rfl
  have Hs:=hJ hs
  rw[ho] at c3
  clear h hs hokS
  go_enter Tryz.func351,Tryz.ntmps351
  go_wp2
  go_ret
  rw[Hs.out]
  exact ⟨rfl,DM.same H.out (Mod.refl _ _)⟩
 rw[ho] at c3
 obtain ⟨Hok,Ho⟩:=hJ2 hokS ho
 clear h hokS ho
 go_enter Tryz.func351,Tryz.ntmps351
 go_wp2_with fail
 refine (zpB w d fv D H.out).mono ?_
 rintro e w1 ⟨rfl,hD,hm⟩
 obtain ⟨e1,e2,e3,e4,e5⟩:=ze1 D
 have hs:D.sync=if D.count.2 then (D.count.1.crash D.keep,4) else ({ D.count.1 with synced:=D.file.length },0):=by unfold zU.sync;rw[Ho.out];rfl
 obtain ⟨D1,hD1⟩:∃ D1,D.count.1=D1:=⟨_,rfl⟩
 rw[hD1] at hD e1 e2 e3 e4 e5 hs
 obtain ⟨HD,HM⟩:=hJ2 hD hm
 clear c0 c1 c2 c3 c4 c5 hm hD1
 obtain ⟨A,c,rfl⟩:=zC hD.2.1
 obtain ⟨c0,c1,c2,c3,c4,c5⟩:=hD.cells
 have f2:w1.frozen? ⟨d,2,none⟩=false:=zB 2 hD.1
 rcases hb:D.count.2 with _|_
 ·
  rw[hb] at hs
  have Hs:=hJ hs
  obtain ⟨n,hn⟩:∃ n,D1.file.length=n:=⟨_,rfl⟩
  have hm2:Mod (fun k=>k=d) w1 (w1.setCell ⟨d,2,none⟩ (.int .i64 (n:Int))):=zM (Mod.refl _ _) _ _
  have hok2:=Hok.out
  rw[hs] at hok2
  have hR:DM w d (.slice A D1.file.length c) D.sync.1 (w1.setCell ⟨d,2,none⟩ (.int .i64 (n:Int))):=by
   rw[hs]
   refine dm_of (w1:=(w1.setCell ⟨d,2,none⟩ (.int .i64 (n:Int)))) ⟨?_,zN hD.2.1 hm2 (fun g h1 h2=>hD.apart (h2▸h1)),hok2⟩ (HM.out.self hm2)
   have h3:=jA hD.1 2 (.int .i64 (n:Int))
   rw[←hn,e1] at h3 ⊢
   exact h3
  rw[hn] at c1
  have HR:=hJ hR
  clear hR hm2 hok2 hn hs hD hb e1 e2 e3 e4 e5
  go_wp2
  go_ret
  exact ⟨by rw[Hs.out];rfl,HR.out⟩
 rw[hb] at hs
 have Hs:=hJ hs
 have hkb : -9223372036854775808≤D1.keep∧D1.keep≤9223372036854775807:=by have h1:=hD.2.2;unfold zU.ok at h1;omega
 have E4:=hJ e4
 clear hs hD hb e1 e2 e3 e4 e5
 go_wp2_with fail
 refine (zkU w1 d _ D1 HD.out D1.keep hkb).mono ?_
 rintro e w2 ⟨rfl,hX⟩
 have HX:Hid (DM w d (.slice A D1.file.length c) D.sync.1 w2):=hJ (by
  rw[Hs.out]
  simp only[if_true]
  rw[←E4.out]
  exact DM.trans (HM.out.mono (fun _ _ e=>.inl e)) (fun _ h=>.inl h) hX)
 clear hX
 go_wp2
 go_ret
 exact ⟨by rw[Hs.out];rfl,HX.out⟩
theorem d_append (w:World) (d:Nat) (fv:Value) (D:zU) (h:Dsk w d fv D) (T:Nat→Prop) (bv:Value) (bs:List UInt8) (hb:Byt w T bv bs) (hbl:bs.length≤100000000):
  Calls Tryz.prog 350 #[.pointer (some ⟨d,0,none⟩),bv] w fun e w'=>e=.returned (.int .i64 (D.append bs).2)∧DM w d fv (D.append bs).1 w':=by
 obtain ⟨i0,hi,hz0,hz1,hz2⟩:=info_parts zdV
 have H:=hJ h
 obtain ⟨A,c,rfl⟩:=zC h.2.1
 obtain ⟨c0,c1,c2,c3,c4,c5⟩:=h.cells
 obtain ⟨r0,r1,sy,rl,t1,k0,k1⟩:=h.2.2
 obtain ⟨m,hm⟩:∃ m,bs.length=m:=⟨_,rfl⟩
 obtain ⟨n,hn⟩:∃ n,D.file.length=n:=⟨_,rfl⟩
 obtain ⟨A2,c2',rfl⟩:=hb.form
 obtain ⟨Hb,Hm,Hn⟩:=hJ3 hb hm hn
 rw[hm] at hbl ⊢
 rw[hn] at c1 rl sy ⊢
 rcases ho:D.off with _|_
 rotate_left
 ·
  have hs:D.append bs=(D,4):=by unfold zU.append;rw[ho];rfl
  have Hs:=hJ hs
  rw[ho] at c3
  clear h hs hb hm hn
  go_enter Tryz.func350,Tryz.ntmps350
  go_wp2
  go_ret
  rw[Hs.out]
  have h1:=H.out
  rw[Hn.out] at h1
  exact ⟨rfl,DM.same h1 (Mod.refl _ _)⟩
 rw[ho] at c3
 obtain ⟨q,hq⟩:∃ q,D.room-(n:Int)=q:=⟨_,rfl⟩
 have hsub:IntKind.i64.wrap (D.room-(n:Int))=q:=by rw[IntWalk.i64_in _ (by omega)];exact hq
 obtain ⟨Ho,Hq⟩:=hJ2 ho hq
 clear hb hm hn ho hq
 by_cases hf:q<(m:Int)
 ·
  have df:decide (q<(m:Int))=true:=by simpa using hf
  have hs:D.append bs=(D,5):=by unfold zU.append;rw[Ho.out,Hn.out,Hm.out,Hq.out];simp[hf]
  have Hs:=hJ hs
  clear h hs
  go_enter Tryz.func350,Tryz.ntmps350
  go_wp2
  go_quiet (fail)
  go_wp2
  go_ret
  rw[Hs.out]
  have h1:=H.out
  rw[Hn.out] at h1
  exact ⟨rfl,DM.same h1 ((Mod.refl _ _).drewN _)⟩
 have df:decide (q<(m:Int))=false:=by simp;omega
 obtain ⟨E,hE⟩:∃ E:zU,{ D with file:=D.file++bs }=E:=⟨_,rfl⟩
 have hs:D.append bs=if E.count.2 then (E.count.1.crash D.keep,4) else (E.count.1,0):=by
  unfold zU.append
  rw[if_neg (by rw[Ho.out];simp),if_neg (by rw[Hn.out,Hm.out,Hq.out];exact hf),←hE]
 have hEok:E.ok:=by
  rw[←hE]
  have h1:=Hn.out
  have h2:=Hm.out
  have h3:=Hq.out
  exact ⟨r0,r1,by simp only[List.length_append];omega,by simp only[List.length_append];omega,t1,k0,k1⟩
 have hEk:E.keep=D.keep:=by rw[←hE]
 have hEf:E.file=D.file++bs:=by rw[←hE]
 have hEc:E.room=D.room∧E.synced=D.synced∧E.off=D.off∧E.trip=D.trip:=by rw[←hE];exact ⟨rfl,rfl,rfl,rfl⟩
 obtain ⟨Hs,HEok,HEk,HEf,HEc⟩:=hJ5 hs hEok hEk hEf hEc
 have hown:=h.2.1
 rw[Hn.out] at hown
 have Hown:=hJ hown
 have hbb:=Hb.out
 unfold Byt at hbb
 rw[Hm.out] at hbb
 have Hbb:=hJ hbb
 have hnm:(n:Int)+(m:Int)≤65536:=by have:=Hq.out;omega
 clear h hs hE hEok hEk hEf hEc hf hown hbb
 go_enter Tryz.func350,Tryz.ntmps350
 go_wp2
 go_quiet (fail)
 go_wp2_with (at_builtin;refine xB _ rfl _ _ 58 rfl 5 i0 _ 1 1 Tryz.underlying58 hi hz0 hz1 hz2 rfl (by omega) (.slice A n c) n (D.file.map B) rfl (zN Hown.out ((Mod.refl (fun _=>False) w).drewN _) (fun _ _=>id)) T _ m (bs.map B) rfl Hbb.out (zn8 bs) (by simp only[maxLen];omega) (by omega) ?_)
 intro v' w1 ho hgr hat
 have H2:Dsk w d (.slice A n c) D:=by
  have h1:=H.out
  rw[Hn.out] at h1
  exact h1
 have hmA:Mod (fun k=>(Value.slice A n c).ownBlock=some k) w w1:=((Mod.refl _ w).drewN _).grown hgr (fun k e=>.inr e)
 have hD1:=hmA.blk H2.1 H2.apart
 have hm2:Mod (fun k=>k=d) w1 (w1.setCell ⟨d,1,none⟩ v'):=zM (Mod.refl _ _) _ _
 have hel:E.file.length=n+m:=by rw[HEf.out,List.length_append,Hn.out,Hm.out]
 have hDE:Dsk (w1.setCell ⟨d,1,none⟩ v') d v' E:=by
  refine ⟨?_,zN ?_ hm2 (fun g h1 h2=>zG ho h1 hD1 (by decide) h2),HEok.out⟩
  · have h3:=jA hD1 1 v'
    rw[HEc.out.1,HEc.out.2.1,HEc.out.2.2.1,HEc.out.2.2.2,HEk.out]
    exact h3
  rw[hel,HEf.out,List.map_append]
  exact ho
 have hfar:∀ g,v'.ownBlock=some g→(Value.slice A n c).ownBlock=some g∨w.heap.size≤g:=fun g hg=>by
  rcases hat with e|e <;> rw[e] at hg
  · exact .inl hg
  injection hg with hg
  exact .inr (by omega)
 have hM2:Mod (fun k=>k=d∨(Value.slice A n c).ownBlock=some k) w (w1.setCell ⟨d,1,none⟩ v'):=(hmA.mono (fun _ _ e=>.inr e)).trans hm2 (fun _ _ e=>.inl e)
 have f1:w1.frozen? ⟨d,1,none⟩=false:=zB 1 hD1
 have b1:w1.cell? ⟨d,1,none⟩=some _:=zA hD1 rfl
 obtain ⟨A7,c7,hv7⟩:=zC ho
 obtain ⟨HDE,Hfar,HM2⟩:=hJ3 hDE hfar hM2
 clear hDE hfar hM2 hm2 hmA hD1 H2 ho hgr hat c0 c1 c2 c3 c4 c5 hel
 subst hv7
 go_wp2_with fail
 refine (zpB _ d _ E HDE.out).mono ?_
 rintro e w2 ⟨rfl,hD,hm⟩
 obtain ⟨e1,e2,e3,e4,e5⟩:=ze1 E
 obtain ⟨D1,hD1⟩:∃ D1,E.count.1=D1:=⟨_,rfl⟩
 have hs:=Hs.out
 rw[hD1] at hD e4 hs
 have HM:=hJ (HM2.out.trans hm (fun _ _ e=>.inl e))
 have HD:=hJ hD
 clear hm hD1 e1 e2 e3 e5 f1 b1
 obtain ⟨c0,c1,c2,c3,c4,c5⟩:=hD.cells
 rcases hb:E.count.2 with _|_
 ·
  rw[hb] at hs
  have Hs2:=hJ hs
  clear hb hs hD
  go_wp2
  go_ret
  rw[Hs2.out]
  exact ⟨rfl,_,HD.out,HM.out,Hfar.out⟩
 rw[hb] at hs
 have Hs2:=hJ hs
 have hkb : -9223372036854775808≤D1.keep∧D1.keep≤9223372036854775807:=by have h1:=hD.2.2;unfold zU.ok at h1;omega
 have E4:=hJ (e4.trans HEk.out)
 clear hb hs hD e4
 go_wp2_with fail
 refine (zkU w2 d _ D1 HD.out D1.keep hkb).mono ?_
 rintro e w3 ⟨rfl,hX⟩
 have HX:Hid (DM w d (.slice A n c) (D.append bs).1 w3):=hJ (by
  rw[Hs2.out]
  simp only[if_true]
  rw[←E4.out]
  exact DM.trans HM.out Hfar.out hX)
 clear hX
 go_wp2
 go_ret
 exact ⟨by rw[Hs2.out];rfl,HX.out⟩
theorem zpC (w:World) (d:Nat) (fv:Value) (D:zU) (h:Dsk w d fv D) (T:Nat→Prop) (bv:Value) (bs:List UInt8) (hb:Byt w T bv bs) (hbl:bs.length≤100000000) (hT:∀ g,T g→g≠d):
  Calls Tryz.prog 124 #[.pointer (some ⟨d,0,none⟩),bv] w fun e w'=>e=.returned (.int .i64 (D.replace bs).2)∧DM w d fv (D.replace bs).1 w':=by
 have H:=hJ h
 have hokS:=zU.replace_ok h.2.2 bs
 obtain ⟨c0,c1,c2,c3,c4,c5⟩:=h.cells
 obtain ⟨r0,r1,sy,rl,t1,k0,k1⟩:=h.2.2
 obtain ⟨m,hm⟩:∃ m,bs.length=m:=⟨_,rfl⟩
 obtain ⟨A2,c2',rfl⟩:=hb.form
 obtain ⟨Hb,Hm⟩:=hJ2 hb hm
 rw[hm] at hbl ⊢
 rcases ho:D.off with _|_
 rotate_left
 ·
  have hs:D.replace bs=(D,4):=by unfold zU.replace;rw[ho];rfl
  have Hs:=hJ hs
  rw[ho] at c3
  clear h hs hb hm hokS
  go_enter Tryz.func124,Tryz.ntmps124
  go_wp2
  go_ret
  rw[Hs.out]
  exact ⟨rfl,DM.same H.out (Mod.refl _ _)⟩
 rw[ho] at c3
 by_cases hf:D.room<(m:Int)
 ·
  have df:decide (D.room<(m:Int))=true:=by simpa using hf
  have hs:D.replace bs=(D,5):=by unfold zU.replace;rw[ho,hm];simp[hf]
  have Hs:=hJ hs
  clear h hs hb hm hokS
  go_enter Tryz.func124,Tryz.ntmps124
  go_wp2
  go_ret
  rw[Hs.out]
  exact ⟨rfl,DM.same H.out (Mod.refl _ _)⟩
 have df:decide (D.room<(m:Int))=false:=by simp;omega
 have hs:D.replace bs=if D.count.2 then (D.count.1.crash D.keep,4) else ({ D.count.1 with file:=bs,synced:=bs.length },0):=by
  unfold zU.replace
  rw[if_neg (by rw[ho];simp),if_neg (by rw[hm];exact hf)]
 obtain ⟨Hok,HT⟩:=hJ2 hokS hT
 clear h hokS hb hm hf ho
 go_enter Tryz.func124,Tryz.ntmps124
 go_wp2_with fail
 refine (zpB w d fv D H.out).mono ?_
 rintro e w1 ⟨rfl,hD,hmm⟩
 obtain ⟨e1,e2,e3,e4,e5⟩:=ze1 D
 obtain ⟨D1,hD1⟩:∃ D1,D.count.1=D1:=⟨_,rfl⟩
 rw[hD1] at hD e1 e2 e3 e4 e5 hs
 obtain ⟨HD,HM⟩:=hJ2 hD hmm
 clear c0 c1 c2 c3 c4 c5 hD1
 obtain ⟨c0,c1,c2,c3,c4,c5⟩:=hD.cells
 rcases hb:D.count.2 with _|_
 ·
  rw[hb] at hs
  have Hs:=hJ hs
  have hbb:=Hb.out.mod hmm (fun g hg e=>HT.out g hg e)
  have hE0:Ext w1 (w1.alloc (.cells #[] 5)):=(Mod.refl _ _).alloc _
  have hN:zaN w1 (w1.alloc (.cells #[] 5)) (.slice (some ⟨w1.heap.size,0,none⟩) 0 0) []:=⟨World.ownsRow_made w1 #[] 0 (Nat.zero_le _) (by simp[maxLen]) rfl,fun g hg=>by simp[Value.ownBlock] at hg;omega⟩
  have hbb2:=hbb.ext hE0
  have hml:=Hm.out
  rw[Hm.out] at hbb2
  clear hs hb hmm
  go_wp2_with (at_builtin;refine jI rfl _ _ rfl (.slice (some ⟨w1.heap.size,0,none⟩) 0 0) [] w1 rfl hN hE0 T _ bs rfl (by unfold Byt;rw[Hm.out];exact hbb2) (by simp only[List.length_nil];omega) ?_)
  intro A4 n4 c4' w4 hn4 hN4 hX4 _ _
  obtain rfl:n4=m:=by simpa [hml] using hn4
  have hD4:=hX4.blk hD.1 id
  have hm4:Mod (fun k=>k=d) w4 ((w4.setCell ⟨d,1,none⟩ (.slice A4 n4 c4')).setCell ⟨d,2,none⟩ (.int .i64 (n4:Int))):=zM (zM (Mod.refl _ _) _ _) _ _
  have f1:w4.frozen? ⟨d,1,none⟩=false:=zB 1 hD4
  have f2:w4.frozen? ⟨d,2,none⟩=false:=zB 2 hD4
  have b1:w4.cell? ⟨d,1,none⟩=some _:=zA hD4 rfl
  have b2:w4.cell? ⟨d,2,none⟩=some _:=zA hD4 rfl
  have hR:DM w d fv (D.replace bs).1 ((w4.setCell ⟨d,1,none⟩ (.slice A4 n4 c4')).setCell ⟨d,2,none⟩ (.int .i64 (n4:Int))):=by
   have hok2:=Hok.out
   rw[Hs.out] at hok2 ⊢
   refine ⟨.slice A4 n4 c4',⟨?_,zN ?_ hm4 (fun g h1 h2=>zG hN4.1 h1 hD4 (by decide) h2),hok2⟩,?_,fun g hg=>.inr (Nat.le_trans HM.out.size (hN4.2 g hg))⟩
   · have h3:=jA (jA hD4 1 (.slice A4 n4 c4')) 2 (.int .i64 (n4:Int))
     simp only[Bool.false_eq_true,if_false]
     rw[hml]
     exact h3
   · simp only[Bool.false_eq_true,if_false]
     exact hN4.1
   exact ((HM.out.ext hX4).self hm4).mono (fun _ _ e=>.inl e)
  have HR:=hJ hR
  clear hR hm4 hD4 hN4 hX4 hn4 hN hE0 hbb hbb2 hD e1 e2 e3 e4 e5 hml
  go_wp2
  go_ret
  exact ⟨by rw[Hs.out];rfl,HR.out⟩
 rw[hb] at hs
 have Hs:=hJ hs
 have hkb : -9223372036854775808≤D1.keep∧D1.keep≤9223372036854775807:=by have h1:=hD.2.2;unfold zU.ok at h1;omega
 have E4:=hJ e4
 clear hs hD hb e1 e2 e3 e4 e5 hmm
 go_wp2_with fail
 refine (zkU w1 d _ D1 HD.out D1.keep hkb).mono ?_
 rintro e w2 ⟨rfl,hX⟩
 have HX:Hid (DM w d fv (D.replace bs).1 w2):=hJ (by
  rw[Hs.out]
  simp only[if_true]
  rw[←E4.out]
  exact DM.trans (HM.out.mono (fun _ _ e=>.inl e)) (fun _ h=>.inl h) hX)
 clear hX
 go_wp2
 go_ret
 exact ⟨by rw[Hs.out];rfl,HX.out⟩
set_option maxHeartbeats 2000000
theorem zaA {P:Program} {fn:Func} {p u:Tmp} {ty:TypeId} {k:Nat} (h:fn.results = #[.cell p ty,.tmp u]) (tmps:Array Value) (w:World) (g:Nat) (t:TypeId) (cs:List Value) (hs:Str P ty k)
  (hp:tmps.getD p undef=.pointer (some ⟨g,0,none⟩)) (hg:w.heap[g]? = some (.cells cs.toArray t (0,0))) (hc:cs.length=k):(results fn tmps).run P w=.ok (.tuple #[.agg cs.toArray,tmps.getD u undef]) w:=by
 have hl:=xH (P:=P) (o:=0) (cs:=cs) hs hg hc (fun j u hu=>by rw[Nat.zero_add];exact hu)
 have hv:(loadVar ty ⟨g,0,none⟩).run P w=.ok (.agg cs.toArray) w:=by simpa [Instr.loadAt,Instr.sureAddr] using hl
 rw[results_cell_tmp h]
 simp[hp,asAddr,hv,Result.andThen]
theorem zfR {n:Int} (h:zjD n=true):I64 n:=by
 unfold zjD at h
 simp only[Bool.and_eq_true,decide_eq_true_eq] at h
 unfold I64
 omega
theorem zpD {c:jB} (h:zb2 c=true):c.ok:=by
 unfold zb2 at h
 simp only[Bool.and_eq_true] at h
 exact ⟨zfR h.1.1.1.1.1.1.1,zfR h.1.1.1.1.1.1.2,zfR h.1.1.1.1.1.2,zfR h.1.1.1.1.2⟩
theorem Right.ok {h:zX} (r:Right h):h.ok:=⟨r.i64.1,r.i64.2.1,r.i64.2.2.1,r.i64.2.2.2,zpD r.c⟩
theorem zm7 {h:zX} (r:Right h) (ho:∀ x∈h.log,x.ok):told h.w=if 16384<h.enc.length then ([],2) else (h.enc,0):=by
 have ha:h.log.all zoG=true:=List.all_eq_true.2 (fun x hx=>(zc6 (zgF r.r x hx) (ho x hx)).1.2.1)
 unfold zX.w
 rw[zoJ]
 unfold hardP zhF
 rw[if_pos ha]
 rfl
def zn4 (h:zX):List UInt8×Int:=if 16384≤h.enc.length then ([],2) else (yP (1 :: h.enc),0)
theorem xP.cap {w:World} {T:Nat→Prop} {sv lv:Value} {h:zX} (hv:xP w T sv lv h):xP w (fun g=>T g∧g<w.heap.size) sv lv h:=⟨Sl.cap hv.1 (by omega),Sl.cap hv.2.1 (by omega),hv.2.2⟩
theorem st_all (w:World) (T:Nat→Prop) (h:zX) (sv lv:Value) (hv:xP w T sv lv h) (hr:Right h) (hl:h.log.length≤12700):
  Calls Tryz.prog 192 #[.agg #[.int .i64 h.term,.int .i64 h.vote,.int .i64 h.base,.int .i64 h.baseTerm,.int .i64 h.conf.full,.int .i64 h.conf.wit,.int .i64 h.conf.learn,.int .i64 h.conf.learnWit,sv,lv]] w fun e w'=>∃ v,e=.returned (.tuple #[v,.int .i64 (zn4 h).2])∧zaN w w' v (zn4 h).1∧Ext w w':=by
 obtain ⟨W,hW⟩:∃ W,w.alloc (.cells (h.cells sv lv).toArray 61)=W:=⟨_,rfl⟩
 have hE:Ext w W:=by rw[←hW];exact (Mod.refl _ w).alloc _
 have hA:W.heap[w.heap.size]? = some (.cells (h.cells sv lv).toArray 61 (0,0)):=by rw[←hW];exact heap_alloc_new w _
 have hld:=ld0 (P:=Tryz.prog) (cs:=h.cells sv lv) yF hA
 have hv1:xP W (fun g=>T g∧g<W.heap.size) sv lv h:=(hv.mod hE (fun _ _=>id)).cap
 have ht:=zm7 hr hv.2.2
 obtain ⟨HW,HE,Ht,Hv1⟩:=hJ4 hW hE ht hv1
 obtain ⟨As,cs,Al,cl,rfl,rfl⟩:=hv.forms
 obtain ⟨sl,hsl⟩:∃ n,h.snap.length=n:=⟨_,rfl⟩
 obtain ⟨ll,hll⟩:∃ n,h.log.length=n:=⟨_,rfl⟩
 have Hl:=hJ hl
 rw[hsl,hll] at Hv1 HW hld ⊢
 clear hW hE hA ht hv hv1 hsl hll hl
 go_enter Tryz.func192,Tryz.ntmps192
 go_wp2_with (rw[HW.out];refine yT rfl 61 _ rfl _ _ rfl hld ?_)
 clear hld
 refine (wo_hard W _ h _ _ Hv1.out hr.ok (fun g hg=>hg.2) Hl.out).mono ?_
 rintro e w1 ⟨v,rfl,hN1,hE1⟩
 rw[Ht.out] at hN1 ⊢
 by_cases hL:16384<h.enc.length
 ·
  rw[if_pos hL] at hN1 ⊢
  have Ha:Hid (zn4 h=([],2)):=hJ (by unfold zn4;rw[if_pos (by omega)])
  have HE1:=hJ (HE.out.ext hE1)
  clear hN1 hE1 hL
  go_wp2
  go_ret2
  rw[Ha.out]
  exact ⟨_,rfl,⟨World.ownsRow_nil _ _ _ _,by simp[Value.ownBlock]⟩,HE1.out⟩
 rw[if_neg hL] at hN1 ⊢
 obtain ⟨A1,c1,rfl⟩:=zC hN1.1
 have hb1:Byt w1 (zD W.heap.size) (.slice A1 h.enc.length c1) h.enc:=zaN.sl (w:=W) hN1
 obtain ⟨n,hn⟩:∃ n,h.enc.length=n:=⟨_,rfl⟩
 rw[hn] at hb1 hL
 simp only[hn]
 obtain ⟨Hn,Hb1⟩:=hJ2 hn hb1
 have HE1:=hJ (HE.out.ext hE1)
 clear hN1 hE1 hn hb1
 go_wp2_with fail
 refine (zgG w1 _ A1 n c1 1 1 h.enc rfl Hb1.out Hn.out (by omega)).mono ?_
 rintro e w2 ⟨v2,rfl,hN2,hE2⟩
 have Ha:Hid (zn3 1 h.enc=zn4 h):=hJ (by
  unfold zn3 zn4
  by_cases h1:16384≤h.enc.length
  · rw[if_pos h1,if_pos (by omega)]
  rw[if_neg h1,if_neg (by omega)])
 rw[Ha.out] at hN2 ⊢
 have HN2:=hJ (hN2.up HE1.out)
 have HE2:=hJ (HE1.out.ext hE2)
 clear hN2 hE2
 go_wp2
 go_ret2
 exact ⟨_,rfl,HN2.out,HE2.out⟩
def StB (w:World) (s d:Nat) (g:zX) (sv lv:Value):Prop:=w.heap[s]? = some (.cells #[.pointer (some ⟨d,0,none⟩),.int .i64 g.term,.int .i64 g.vote,.int .i64 g.base,.int .i64 g.baseTerm,.int .i64 g.conf.full,.int .i64 g.conf.wit,.int .i64 g.conf.learn,.int .i64 g.conf.learnWit,sv,lv] 198 (0,0))
theorem Dsk.ne {w:World} {d b:Nat} {fv:Value} {D:zU} {t:TypeId} {cs:Array Value} {q:Nat×Nat} (h:Dsk w d fv D) (hb:w.heap[b]? = some (.cells cs t q)) (ht:t≠140):b≠d:=fun e=>by
 have h1:=h.1
 rw[←e,hb] at h1
 injection h1 with h1
 injection h1 with _ h1
 exact ht h1
theorem zpE (D:zU) (h:zX):zc7 D h=if 16384≤h.enc.length then (D,2) else D.replace (zn4 h).1:=by
 unfold zc7 zn4
 split <;> rfl
theorem zkV (w:World) (T:Nat→Prop) (s d:Nat) (g h:zX) (gs gl sv lv fv:Value) (D:zU) (hS:StB w s d g gs gl) (hD:Dsk w d fv D) (hv:xP w T sv lv h) (hr:Right h) (hl:h.log.length≤12700):
  Calls Tryz.prog 120 #[.pointer (some ⟨s,0,none⟩),.agg #[.int .i64 h.term,.int .i64 h.vote,.int .i64 h.base,.int .i64 h.baseTerm,.int .i64 h.conf.full,.int .i64 h.conf.wit,.int .i64 h.conf.learn,.int .i64 h.conf.learnWit,sv,lv]] w fun e w'=>e=.returned (.int .i64 (zc7 D h).2)∧DM w d fv (zc7 D h).1 w':=by
 obtain ⟨W,hW⟩:∃ W,w.alloc (.cells (h.cells sv lv).toArray 61)=W:=⟨_,rfl⟩
 have hE:Ext w W:=by rw[←hW];exact (Mod.refl _ w).alloc _
 have hA:W.heap[w.heap.size]? = some (.cells (h.cells sv lv).toArray 61 (0,0)):=by rw[←hW];exact heap_alloc_new w _
 have hld:=ld0 (P:=Tryz.prog) (cs:=h.cells sv lv) yF hA
 have hv1:xP W T sv lv h:=hv.mod hE (fun _ _=>id)
 obtain ⟨HW,HE,Hv1,HS,HD⟩:=hJ5 hW hE hv1 hS hD
 obtain ⟨As,cs,Al,cl,rfl,rfl⟩:=hv.forms
 obtain ⟨sl,hsl⟩:∃ n,h.snap.length=n:=⟨_,rfl⟩
 obtain ⟨ll,hll⟩:∃ n,h.log.length=n:=⟨_,rfl⟩
 have Hl:=hJ hl
 have Ha:=hJ (zpE D h)
 rw[hsl,hll] at Hv1 HW hld ⊢
 clear hW hE hA hv hv1 hsl hll hl hS hD
 go_enter Tryz.func120,Tryz.ntmps120
 go_wp2_with (rw[HW.out];refine yT rfl 61 _ rfl _ _ rfl hld ?_)
 clear hld
 refine (st_all W T h _ _ Hv1.out hr Hl.out).mono ?_
 rintro e w1 ⟨v,rfl,hN1,hE1⟩
 have HE1:=hJ (HE.out.ext hE1)
 have c0:w1.cell? ⟨s,0,none⟩=some (.pointer (some ⟨d,0,none⟩)):=zA (cs:=[.pointer (some ⟨d,0,none⟩),.int .i64 g.term,.int .i64 g.vote,.int .i64 g.base,.int .i64 g.baseTerm,.int .i64 g.conf.full,.int .i64 g.conf.wit,.int .i64 g.conf.learn,.int .i64 g.conf.learnWit,gs,gl]) (HE1.out.blk HS.out id) rfl
 by_cases hL:16384≤h.enc.length
 ·
  have Hp:Hid (zn4 h=([],2)):=hJ (by unfold zn4;rw[if_pos hL])
  have Hq:Hid (zc7 D h=(D,2)):=hJ (by rw[Ha.out,if_pos hL])
  rw[Hp.out] at hN1 ⊢
  clear hN1 hE1 hL
  go_wp2
  go_ret
  rw[Hq.out]
  exact ⟨rfl,DM.same HD.out HE1.out⟩
 have Hp:Hid (zn4 h=(yP (1 :: h.enc),0)):=hJ (by unfold zn4;rw[if_neg hL])
 have Hq:Hid (zc7 D h=D.replace (yP (1 :: h.enc))):=hJ (by rw[Ha.out,if_neg hL,Hp.out])
 rw[Hp.out] at hN1 ⊢
 have HN1:=hJ (zaN.sl (w:=W) hN1)
 obtain ⟨A1,c1,rfl⟩:=zC hN1.1
 have hbl:(yP (1 :: h.enc)).length≤100000000:=by rw[jY,List.length_cons];omega
 have hsd:d<W.heap.size:=Nat.lt_of_lt_of_le HD.out.lt HE.out.size
 obtain ⟨fl,hfl⟩:∃ fl,(yP (1 :: h.enc)).length=fl:=⟨_,rfl⟩
 rw[hfl] at HN1
 simp only[hfl]
 clear hN1 hE1 hL
 go_wp2_with fail
 refine (zpC w1 d fv D (HD.out.ext HE1.out) _ _ (yP (1 :: h.enc)) HN1.out hbl (fun g hg e=>by unfold zD at hg;omega)).mono ?_
 rintro e w2 ⟨rfl,hM⟩
 have HM:Hid (DM w d fv (zc7 D h).1 w2):=hJ (by rw[Hq.out];exact DM.trans (Ext.mod HE1.out _) (fun g hg=>.inl hg) hM)
 rw[←Hq.out]
 clear hM
 go_wp2
 go_ret
 exact ⟨rfl,HM.out⟩
end Go.Proofs.YtjbkjhhjofeldaaGreat
