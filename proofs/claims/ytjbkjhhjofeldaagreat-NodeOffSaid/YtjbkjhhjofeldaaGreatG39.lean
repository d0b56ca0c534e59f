/-
 The contract of kv.do, what is thrown; and whole. Conditions: as each theorem names them.
-/
import Derived.Test.YtjbkjhhjofeldaaGreatG38
import Derived.Deep.RegionWith
import Derived.Defers
import Derived.Recover
set_option maxRecDepth 100000
set_option maxHeartbeats 4000000
namespace Go.Proofs.YtjbkjhhjofeldaaGreat
set_option linter.unusedSimpArgs false
open Go.RowKit
theorem znT (w:World) (v:Value) (l:List zJ) (c:jV) (hO:Own w v l) (x:yO) (hx:zcD l c.key=x) (hk:c.kind=4) (he:zbD x c.old=false):
  Calls Tryz.prog 279 #[v,.agg #[.int .i64 c.kind,.string c.key,.int .i64 c.old.kind,.float .f64 c.old.num,.string c.old.text,.int .i64 c.val.kind,.float .f64 c.val.num,.string c.val.text]] w (DoK w v (l,⟨9,x⟩)):=by
 have d2:(c.kind==2)=false:=by simp[hk]
 have d3:(c.kind==3)=false:=by simp[hk]
 have d4:(c.kind==4)=true:=by simp[hk]
 clear hk
 have hlo:∀ g,v.ownBlock=some g→g<w.heap.size:=fun g hg=>(hO.1.lt g hg).2
 go_enter Tryz.func279,Tryz.ntmps279
 go_wp2_with fail
 obtain ⟨W0,hW0⟩:∃ W0,W0=(w.alloc (.cells #[.int .i64 c.kind,.string c.key,.int .i64 c.old.kind,.float .f64 c.old.num,.string c.old.text,.int .i64 c.val.kind,.float .f64 c.val.num,.string c.val.text] 27)).alloc (.cells #[.int .i64 0,.int .i64 0,.float .f64 0,.string ⟨#[]⟩] 48):=⟨_,rfl⟩
 obtain ⟨b3,hb3⟩:∃ b3,b3=w.heap.size:=⟨_,rfl⟩
 obtain ⟨hB3,hB5,hZ0⟩:=xY w (.cells #[.int .i64 c.kind,.string c.key,.int .i64 c.old.kind,.float .f64 c.old.num,.string c.old.text,.int .i64 c.val.kind,.float .f64 c.val.num,.string c.val.text] 27) (.cells #[.int .i64 0,.int .i64 0,.float .f64 0,.string ⟨#[]⟩] 48)
 have hE:Ext w W0:=by rw[hW0];exact ((Mod.refl _ w).alloc _).alloc _
 rw[←hW0,←hb3] at hB3 hB5 hZ0 ⊢
 have hZ:w.heap.size≤b3:=Nat.le_of_eq hb3.symm
 have hO0:=hO.mod hE (fun _ _=>id)
 clear hW0 hb3
 refine (zj4 W0 _ v l c.key hO0.prs).mono ?_
 rintro e w1 ⟨rfl,hE1⟩
 rw[hx]
 have hs1:=hE1.size
 have k1:w1.cell? ⟨b3,1,none⟩=some (.string c.key):=hE1.cell (zA hB3 rfl) id
 have k0:w1.cell? ⟨b3,0,none⟩=some (.int .i64 c.kind):=hE1.cell (zA hB3 rfl) id
 have hb3w:b3<w1.heap.size:=by omega
 go_upto_block 0 with fail
 obtain ⟨W2,hW2⟩:∃ W2,W2=(w1.alloc (.cells #[.int .i64 x.kind,.float .f64 x.num,.string x.text] 25)).alloc (.cells #[.int .i64 0,.int .i64 x.kind,.float .f64 x.num,.string x.text] 48):=⟨_,rfl⟩
 obtain ⟨hBr,hBq,hZ2⟩:=xY w1 (.cells #[.int .i64 x.kind,.float .f64 x.num,.string x.text] 25) (.cells #[.int .i64 0,.int .i64 x.kind,.float .f64 x.num,.string x.text] 48)
 have hE2:Ext w1 W2:=by rw[hW2];exact ((Mod.refl _ w1).alloc _).alloc _
 rw[←hW2] at hBr hBq hZ2 ⊢
 obtain ⟨r,hr⟩:∃ r,r=w1.heap.size:=⟨_,rfl⟩
 rw[←hr] at hBr hBq ⊢
 have hH:DoH w v c b3 r (r+1) l x W2:=⟨hO0.mod (hE1.ext hE2) (fun _ _=>id),(hE1.ext hE2).blk hB3 id,(hE1.ext hE2).blk hB5 id,hBr,hBq,hZ,by omega,by omega,hlo,hE.ext (hE1.ext hE2)⟩
 have HH:=hJ hH
 clear k0 k1 hb3w hW2 hr hBr hBq hZ2 hE2 hE1 hs1 hO0 hB3 hB5 hZ0 hE hx
 obtain ⟨k0,k1,k2,k3,k4,k5,k6,k7⟩:=cq8 hH.b3
 obtain ⟨g0,g1,g2,g3⟩:=cq4 hH.b5
 have f0:W2.frozen? ⟨b3+1,0,none⟩=false:=zB 0 hH.b5
 have f1:W2.frozen? ⟨b3+1,1,none⟩=false:=zB 1 hH.b5
 have f2:W2.frozen? ⟨b3+1,2,none⟩=false:=zB 2 hH.b5
 have f3:W2.frozen? ⟨b3+1,3,none⟩=false:=zB 3 hH.b5
 obtain ⟨r0,r1,r2⟩:=cq3 hH.br
 obtain ⟨q0,q1,q2,q3⟩:=cq4 hH.bq
 have p0:W2.frozen? ⟨r+1,0,none⟩=false:=zB 0 hH.bq
 have p1:W2.frozen? ⟨r+1,1,none⟩=false:=zB 1 hH.bq
 have p2:W2.frozen? ⟨r+1,2,none⟩=false:=zB 2 hH.bq
 have p3:W2.frozen? ⟨r+1,3,none⟩=false:=zB 3 hH.bq
 clear hH
 go_wp2_with fail
 refine (v_same x c.old _).mono ?_
 rintro e w4 ⟨rfl,hE4⟩
 have hH4:=HH.out.mod hE4
 rw[he]
 clear k0 k1 k2 k3 k4 k5 k6 k7 g0 g1 g2 g3 f0 f1 f2 f3 q0 q1 q2 q3 p0 p1 p2 p3 r0 r1 r2
 clear hE4 he
 obtain ⟨ak0,ak1,ak2,ak3,ak4,ak5,ak6,ak7⟩:=cq8 hH4.b3
 obtain ⟨ag0,ag1,ag2,ag3⟩:=cq4 hH4.b5
 have af0:w4.frozen? ⟨b3+1,0,none⟩=false:=zB 0 hH4.b5
 have af1:w4.frozen? ⟨b3+1,1,none⟩=false:=zB 1 hH4.b5
 have af2:w4.frozen? ⟨b3+1,2,none⟩=false:=zB 2 hH4.b5
 have af3:w4.frozen? ⟨b3+1,3,none⟩=false:=zB 3 hH4.b5
 obtain ⟨ar0,ar1,ar2⟩:=cq3 hH4.br
 obtain ⟨aq0,aq1,aq2,aq3⟩:=cq4 hH4.bq
 have ap0:w4.frozen? ⟨r+1,0,none⟩=false:=zB 0 hH4.bq
 have ap1:w4.frozen? ⟨r+1,1,none⟩=false:=zB 1 hH4.bq
 have ap2:w4.frozen? ⟨r+1,2,none⟩=false:=zB 2 hH4.bq
 have ap3:w4.frozen? ⟨r+1,3,none⟩=false:=zB 3 hH4.bq
 have HH4:=hJ hH4
 clear hH4
 go_wp2
 exact ⟨rfl,Ext.mod HH4.out.ext _,.inr ⟨show (9:Int)≠0 by decide,rfl⟩⟩
theorem zqQ (w:World) (v:Value) (l:List zJ) (c:jV) (hO:Own w v l) (x:yO) (hx:zcD l c.key=x) (hk:c.kind=5∨c.kind=6) (hxn:x.num<18446744073709551616) (hvn:c.val.num<18446744073709551616) (z:yO) (n:Int) (hj:zbU (c.kind==5) x c.val=(z,n)) (hn:n≠0):
  Calls Tryz.prog 279 #[v,.agg #[.int .i64 c.kind,.string c.key,.int .i64 c.old.kind,.float .f64 c.old.num,.string c.old.text,.int .i64 c.val.kind,.float .f64 c.val.num,.string c.val.text]] w (DoK w v (l,⟨n,yO.zero⟩)):=by
 rcases hk with hk|hk
 focus
  have d2:(c.kind==2)=false:=by simp[hk]
  have d3:(c.kind==3)=false:=by simp[hk]
  have d4:(c.kind==4)=false:=by simp[hk]
  have d5:(c.kind==5)=true:=by simp[hk]
  rw[d5] at hj
  obtain ⟨HJ,Hn⟩:=hJ2 hj hn
  clear hk hj hn
  have hlo:∀ g,v.ownBlock=some g→g<w.heap.size:=fun g hg=>(hO.1.lt g hg).2
  go_enter Tryz.func279,Tryz.ntmps279
  go_wp2_with fail
  obtain ⟨W0,hW0⟩:∃ W0,W0=(w.alloc (.cells #[.int .i64 c.kind,.string c.key,.int .i64 c.old.kind,.float .f64 c.old.num,.string c.old.text,.int .i64 c.val.kind,.float .f64 c.val.num,.string c.val.text] 27)).alloc (.cells #[.int .i64 0,.int .i64 0,.float .f64 0,.string ⟨#[]⟩] 48):=⟨_,rfl⟩
  obtain ⟨b3,hb3⟩:∃ b3,b3=w.heap.size:=⟨_,rfl⟩
  obtain ⟨hB3,hB5,hZ0⟩:=xY w (.cells #[.int .i64 c.kind,.string c.key,.int .i64 c.old.kind,.float .f64 c.old.num,.string c.old.text,.int .i64 c.val.kind,.float .f64 c.val.num,.string c.val.text] 27) (.cells #[.int .i64 0,.int .i64 0,.float .f64 0,.string ⟨#[]⟩] 48)
  have hE:Ext w W0:=by rw[hW0];exact ((Mod.refl _ w).alloc _).alloc _
  rw[←hW0,←hb3] at hB3 hB5 hZ0 ⊢
  have hZ:w.heap.size≤b3:=Nat.le_of_eq hb3.symm
  have hO0:=hO.mod hE (fun _ _=>id)
  clear hW0 hb3
  refine (zj4 W0 _ v l c.key hO0.prs).mono ?_
  rintro e w1 ⟨rfl,hE1⟩
  rw[hx]
  have hs1:=hE1.size
  have k1:w1.cell? ⟨b3,1,none⟩=some (.string c.key):=hE1.cell (zA hB3 rfl) id
  have k0:w1.cell? ⟨b3,0,none⟩=some (.int .i64 c.kind):=hE1.cell (zA hB3 rfl) id
  have hb3w:b3<w1.heap.size:=by omega
  go_upto_block 0 with fail
  obtain ⟨W2,hW2⟩:∃ W2,W2=(w1.alloc (.cells #[.int .i64 x.kind,.float .f64 x.num,.string x.text] 25)).alloc (.cells #[.int .i64 0,.int .i64 x.kind,.float .f64 x.num,.string x.text] 48):=⟨_,rfl⟩
  obtain ⟨hBr,hBq,hZ2⟩:=xY w1 (.cells #[.int .i64 x.kind,.float .f64 x.num,.string x.text] 25) (.cells #[.int .i64 0,.int .i64 x.kind,.float .f64 x.num,.string x.text] 48)
  have hE2:Ext w1 W2:=by rw[hW2];exact ((Mod.refl _ w1).alloc _).alloc _
  rw[←hW2] at hBr hBq hZ2 ⊢
  obtain ⟨r,hr⟩:∃ r,r=w1.heap.size:=⟨_,rfl⟩
  rw[←hr] at hBr hBq ⊢
  have hH:DoH w v c b3 r (r+1) l x W2:=⟨hO0.mod (hE1.ext hE2) (fun _ _=>id),(hE1.ext hE2).blk hB3 id,(hE1.ext hE2).blk hB5 id,hBr,hBq,hZ,by omega,by omega,hlo,hE.ext (hE1.ext hE2)⟩
  have HH:=hJ hH
  clear k0 k1 hb3w hW2 hr hBr hBq hZ2 hE2 hE1 hs1 hO0 hB3 hB5 hZ0 hE hx
  obtain ⟨k0,k1,k2,k3,k4,k5,k6,k7⟩:=cq8 hH.b3
  obtain ⟨g0,g1,g2,g3⟩:=cq4 hH.b5
  have f0:W2.frozen? ⟨b3+1,0,none⟩=false:=zB 0 hH.b5
  have f1:W2.frozen? ⟨b3+1,1,none⟩=false:=zB 1 hH.b5
  have f2:W2.frozen? ⟨b3+1,2,none⟩=false:=zB 2 hH.b5
  have f3:W2.frozen? ⟨b3+1,3,none⟩=false:=zB 3 hH.b5
  obtain ⟨r0,r1,r2⟩:=cq3 hH.br
  obtain ⟨q0,q1,q2,q3⟩:=cq4 hH.bq
  have p0:W2.frozen? ⟨r+1,0,none⟩=false:=zB 0 hH.bq
  have p1:W2.frozen? ⟨r+1,1,none⟩=false:=zB 1 hH.bq
  have p2:W2.frozen? ⟨r+1,2,none⟩=false:=zB 2 hH.bq
  have p3:W2.frozen? ⟨r+1,3,none⟩=false:=zB 3 hH.bq
  clear hH
  go_wp2_with fail
  refine (v_add x c.val _).mono ?_
 rotate_left
 focus
  have d2:(c.kind==2)=false:=by simp[hk]
  have d3:(c.kind==3)=false:=by simp[hk]
  have d4:(c.kind==4)=false:=by simp[hk]
  have d5:(c.kind==5)=false:=by simp[hk]
  have d6:(c.kind==6)=true:=by simp[hk]
  rw[d5] at hj
  obtain ⟨HJ,Hn⟩:=hJ2 hj hn
  clear hk hj hn
  have hlo:∀ g,v.ownBlock=some g→g<w.heap.size:=fun g hg=>(hO.1.lt g hg).2
  go_enter Tryz.func279,Tryz.ntmps279
  go_wp2_with fail
  obtain ⟨W0,hW0⟩:∃ W0,W0=(w.alloc (.cells #[.int .i64 c.kind,.string c.key,.int .i64 c.old.kind,.float .f64 c.old.num,.string c.old.text,.int .i64 c.val.kind,.float .f64 c.val.num,.string c.val.text] 27)).alloc (.cells #[.int .i64 0,.int .i64 0,.float .f64 0,.string ⟨#[]⟩] 48):=⟨_,rfl⟩
  obtain ⟨b3,hb3⟩:∃ b3,b3=w.heap.size:=⟨_,rfl⟩
  obtain ⟨hB3,hB5,hZ0⟩:=xY w (.cells #[.int .i64 c.kind,.string c.key,.int .i64 c.old.kind,.float .f64 c.old.num,.string c.old.text,.int .i64 c.val.kind,.float .f64 c.val.num,.string c.val.text] 27) (.cells #[.int .i64 0,.int .i64 0,.float .f64 0,.string ⟨#[]⟩] 48)
  have hE:Ext w W0:=by rw[hW0];exact ((Mod.refl _ w).alloc _).alloc _
  rw[←hW0,←hb3] at hB3 hB5 hZ0 ⊢
  have hZ:w.heap.size≤b3:=Nat.le_of_eq hb3.symm
  have hO0:=hO.mod hE (fun _ _=>id)
  clear hW0 hb3
  refine (zj4 W0 _ v l c.key hO0.prs).mono ?_
  rintro e w1 ⟨rfl,hE1⟩
  rw[hx]
  have hs1:=hE1.size
  have k1:w1.cell? ⟨b3,1,none⟩=some (.string c.key):=hE1.cell (zA hB3 rfl) id
  have k0:w1.cell? ⟨b3,0,none⟩=some (.int .i64 c.kind):=hE1.cell (zA hB3 rfl) id
  have hb3w:b3<w1.heap.size:=by omega
  go_upto_block 0 with fail
  obtain ⟨W2,hW2⟩:∃ W2,W2=(w1.alloc (.cells #[.int .i64 x.kind,.float .f64 x.num,.string x.text] 25)).alloc (.cells #[.int .i64 0,.int .i64 x.kind,.float .f64 x.num,.string x.text] 48):=⟨_,rfl⟩
  obtain ⟨hBr,hBq,hZ2⟩:=xY w1 (.cells #[.int .i64 x.kind,.float .f64 x.num,.string x.text] 25) (.cells #[.int .i64 0,.int .i64 x.kind,.float .f64 x.num,.string x.text] 48)
  have hE2:Ext w1 W2:=by rw[hW2];exact ((Mod.refl _ w1).alloc _).alloc _
  rw[←hW2] at hBr hBq hZ2 ⊢
  obtain ⟨r,hr⟩:∃ r,r=w1.heap.size:=⟨_,rfl⟩
  rw[←hr] at hBr hBq ⊢
  have hH:DoH w v c b3 r (r+1) l x W2:=⟨hO0.mod (hE1.ext hE2) (fun _ _=>id),(hE1.ext hE2).blk hB3 id,(hE1.ext hE2).blk hB5 id,hBr,hBq,hZ,by omega,by omega,hlo,hE.ext (hE1.ext hE2)⟩
  have HH:=hJ hH
  clear k0 k1 hb3w hW2 hr hBr hBq hZ2 hE2 hE1 hs1 hO0 hB3 hB5 hZ0 hE hx
  obtain ⟨k0,k1,k2,k3,k4,k5,k6,k7⟩:=cq8 hH.b3
  obtain ⟨g0,g1,g2,g3⟩:=cq4 hH.b5
  have f0:W2.frozen? ⟨b3+1,0,none⟩=false:=zB 0 hH.b5
  have f1:W2.frozen? ⟨b3+1,1,none⟩=false:=zB 1 hH.b5
  have f2:W2.frozen? ⟨b3+1,2,none⟩=false:=zB 2 hH.b5
  have f3:W2.frozen? ⟨b3+1,3,none⟩=false:=zB 3 hH.b5
  obtain ⟨r0,r1,r2⟩:=cq3 hH.br
  obtain ⟨q0,q1,q2,q3⟩:=cq4 hH.bq
  have p0:W2.frozen? ⟨r+1,0,none⟩=false:=zB 0 hH.bq
  have p1:W2.frozen? ⟨r+1,1,none⟩=false:=zB 1 hH.bq
  have p2:W2.frozen? ⟨r+1,2,none⟩=false:=zB 2 hH.bq
  have p3:W2.frozen? ⟨r+1,3,none⟩=false:=zB 3 hH.bq
  clear hH
  go_wp2_with fail
  refine (v_max x c.val hxn hvn _).mono ?_
 all_goals
  rintro e w4 ⟨rfl,hE4⟩
  rw[HJ.out]
  have hH4:=HH.out.mod hE4
  clear k0 k1 k2 k3 k4 k5 k6 k7 g0 g1 g2 g3 f0 f1 f2 f3 q0 q1 q2 q3 p0 p1 p2 p3 r0 r1 r2
  clear hE4
  obtain ⟨ak0,ak1,ak2,ak3,ak4,ak5,ak6,ak7⟩:=cq8 hH4.b3
  obtain ⟨ag0,ag1,ag2,ag3⟩:=cq4 hH4.b5
  have af0:w4.frozen? ⟨b3+1,0,none⟩=false:=zB 0 hH4.b5
  have af1:w4.frozen? ⟨b3+1,1,none⟩=false:=zB 1 hH4.b5
  have af2:w4.frozen? ⟨b3+1,2,none⟩=false:=zB 2 hH4.b5
  have af3:w4.frozen? ⟨b3+1,3,none⟩=false:=zB 3 hH4.b5
  obtain ⟨ar0,ar1,ar2⟩:=cq3 hH4.br
  obtain ⟨aq0,aq1,aq2,aq3⟩:=cq4 hH4.bq
  have ap0:w4.frozen? ⟨r+1,0,none⟩=false:=zB 0 hH4.bq
  have ap1:w4.frozen? ⟨r+1,1,none⟩=false:=zB 1 hH4.bq
  have ap2:w4.frozen? ⟨r+1,2,none⟩=false:=zB 2 hH4.bq
  have ap3:w4.frozen? ⟨r+1,3,none⟩=false:=zB 3 hH4.bq
  have HH4:=hJ hH4
  clear hH4
  go_wp2_with fail
  refine (zfV n Hn.out _).mono ?_
  rintro e w5 ⟨rfl,rfl⟩
  exact ⟨rfl,HH4.out.telld z,.inr ⟨Hn.out,rfl⟩⟩
theorem kv_do (w:World) (v:Value) (l:List zJ) (c:jV) (hO:Own w v l) (hc:zcP c=0) (hp:xG l=true) (hcv:c.val.ok):
  Calls Tryz.prog 279 #[v,.agg #[.int .i64 c.kind,.string c.key,.int .i64 c.old.kind,.float .f64 c.old.num,.string c.old.text,.int .i64 c.val.kind,.float .f64 c.val.num,.string c.val.text]] w (DoK w v (doP l c)):=by
 obtain ⟨hk,hks,_,_,_,_⟩:=zlL hc
 obtain ⟨hl,_,hs⟩:=(xO l).1 hp
 have hxok:=zqO hO.2 c.key
 by_cases h1:c.kind=1
 · rw[do_get1 hc hp h1]
   exact do_get_k w v l c hO _ rfl h1
 rw[do_eq hc hp h1]
 rcases hst:za1 (zcD l c.key) c with ⟨e,y,t⟩
 simp only
 by_cases he:e=0
 ·
  subst he
  have hy:=step_ok2 hxok hcv hst
  rw[if_neg (by simp)]
  split
  · rename_i h;exact zj9 w v l c hO hs hl _ rfl (by unfold maxLen;omega) hcv hxok y t hy.1 (by omega) hst _ rfl _ _ (if_pos h)
  rename_i h;exact zj9 w v l c hO hs hl _ rfl (by unfold maxLen;omega) hcv hxok y t hy.1 (by omega) hst _ rfl _ _ (if_neg h)
 rw[if_pos he]
 unfold za1 at hst
 split at hst
 · simp only[Prod.mk.injEq] at hst;exact absurd hst.1.symm he
 split at hst
 · simp only[Prod.mk.injEq] at hst;exact absurd hst.1.symm he
 split at hst
 ·
  rename_i h4
  rcases hq:zbD (zcD l c.key) c.old with _|_
  ·
   rw[hq] at hst
   simp only[Bool.false_eq_true,if_false,Prod.mk.injEq] at hst
   rw[←hst.1,←hst.2.2]
   exact znT w v l c hO _ rfl h4 hq
  rw[hq] at hst
  simp only[if_true,Prod.mk.injEq] at hst
  exact absurd hst.1.symm he
 rename_i h2 h3 h4
 rcases hj:zbU (c.kind==5) (zcD l c.key) c.val with ⟨z,n⟩
 rw[hj] at hst
 simp only at hst
 split at hst
 · simp only[Prod.mk.injEq] at hst;exact absurd hst.1.symm he
 rename_i hn
 simp only[Prod.mk.injEq] at hst
 rw[←hst.1,←hst.2.2]
 exact zqQ w v l c hO _ rfl (by omega) hxok.2.1 hcv.2.1 z n hj hn
end Go.Proofs.YtjbkjhhjofeldaaGreat
set_option maxRecDepth 100000
set_option maxHeartbeats 1000000
namespace Go.Proofs.YtjbkjhhjofeldaaGreat
set_option linter.unusedSimpArgs false
open Go.RowKit
theorem zqR (n k:Int) (x:Nat) (t:ByteArray) (w:World):(Instr.typeAssert (.iface 305 (.agg #[.int .i64 n,.int .i64 k,.float .f64 x,.string t])) 20 305 true).run Tryz.prog w=.ok (.tuple #[.agg #[.int .i64 n,.int .i64 k,.float .f64 x,.string t],.bool true]) w:=by kernel_rfl
theorem ta_nilK (w:World):(Instr.typeAssert .nilIface 20 305 true).run Tryz.prog w=.ok (.tuple #[.agg #[.int .i64 0,.int .i64 0,.float .f64 0,.string ⟨#[]⟩],.bool false]) w:=by kernel_rfl
attribute [local go_sem] zqR ta_nilK
theorem zhW {P:Program} {c:Code} {Q:Exit→Act→List Frame→World→Prop} {t:Array Value} (t':Array Value) {d:List Deferred} {cs:List Frame} {w:World} (e:t=t') (h:c.wpS P Q ⟨t',d⟩ cs w):c.wpS P Q ⟨t,d⟩ cs w:=e▸h
theorem kd_idle (pl po pr:Addr) (w:World):
  CallsD Tryz.prog 276 #[.pointer (some pl),.pointer (some po),.pointer (some pr)] .returning w fun e u' w'=>e=.returned (.tuple #[])∧u'=.returning∧∃ o,w'=w.alloc o:=by
 refine callsD_of_wpS Tryz.func276 rfl fun c₀ cs hu=>?_
 apply wpS_seq
 apply wpS_region
 simp[wpOpsS,go_sem,recoverD,hu,Tryz.ntmps276,Exit.thenS]
 refine zhW #[.pointer (some pl),.pointer (some po),.pointer (some pr),.pointer (some ⟨w.heap.size,0,none⟩),.bool false,.tuple #[.agg #[.int .i64 0,.int .i64 0,.float .f64 0,.string ⟨#[]⟩],.bool false],.nilIface,
  .tuple #[.agg #[.int .i64 0,.int .i64 0,.float .f64 0,.string ⟨#[]⟩],.bool false],.agg #[.int .i64 0,.int .i64 0,.float .f64 0,.string ⟨#[]⟩],.bool false,undef,undef,undef,undef,undef,undef,undef,undef] ?_ ?_
 · exact Array.ext' (by simp[Array.toList_replicate,List.replicate])
 refine wpS_of_wp ?_
 go_wp2
 cases c₀
 simp_all[bodyPostS,results,Tryz.results276]
 exact ⟨_,rfl⟩
theorem zqS (pl po pr:Nat) (n:Int) (x:yO) (w:World) (T:Nat→Prop) (vl:Value) (l:List zJ) (uo:Value) (r0 r1 r2 r3:Value) (hl:w.cell? ⟨pl,0,none⟩=some vl) (hP:Prs w T vl l) (hlen:l.length≤1000000)
  (ho:w.heap[po]? = some (.cells #[uo] 38 (0,0))) (hr:w.heap[pr]? = some (.cells #[r0,r1,r2,r3] 48 (0,0))) (hne:po≠pr) (hlo:pl≠po) (hlr:pl≠pr):
  CallsD Tryz.prog 276 #[.pointer (some ⟨pl,0,none⟩),.pointer (some ⟨po,0,none⟩),.pointer (some ⟨pr,0,none⟩)] (.panicking [{ v:=.iface 305 (.agg #[.int .i64 n,.int .i64 x.kind,.float .f64 x.num,.string x.text]),recovered:=false }]) w fun e u' w'=>
   e=.returned (.tuple #[])∧u'=.panicking [{ v:=.iface 305 (.agg #[.int .i64 n,.int .i64 x.kind,.float .f64 x.num,.string x.text]),recovered:=true }]∧∃ v',w'.heap[po]? = some (.cells #[v'] 38 (0,0)) ∧
    w'.heap[pr]? = some (.cells #[.int .i64 n,.int .i64 x.kind,.float .f64 x.num,.string x.text] 48 (0,0))∧zg7 w w' v' l∧Mod (fun k=>k=po∨k=pr) w w':=by
 have hplt:pl<w.heap.size:=World.block_lt_of_cell? _ _ hl
 have hE:Ext w (w.alloc (.cells #[.int .i64 n,.int .i64 x.kind,.float .f64 x.num,.string x.text] 305)).drew:=((Mod.refl _ w).alloc _).drew
 have h2:=hP.ext hE
 have co:=zA (cs:=[uo]) (j:=0) ho rfl
 have fo:=zB 0 ho
 have cr0:=zA (cs:=[r0,r1,r2,r3]) (j:=0) hr rfl
 have cr1:=zA (cs:=[r0,r1,r2,r3]) (j:=1) hr rfl
 have cr2:=zA (cs:=[r0,r1,r2,r3]) (j:=2) hr rfl
 have cr3:=zA (cs:=[r0,r1,r2,r3]) (j:=3) hr rfl
 have fr0:=zB 0 hr
 have fr1:=zB 1 hr
 have fr2:=zB 2 hr
 have fr3:=zB 3 hr
 have hne2:=Ne.symm hne
 have m1:=Ne.symm hlo
 have m2:=Ne.symm hlr
 have m3:¬ w.heap.size=po:=by have:=(Array.getElem?_eq_some_iff.1 ho).1;omega
 have m4:¬ w.heap.size=pr:=by have:=(Array.getElem?_eq_some_iff.1 hr).1;omega
 have m5:¬ po=w.heap.size:=by omega
 have m6:¬ pr=w.heap.size:=by omega
 have hpl1:pl<w.heap.size+1:=by omega
 have hpo1:po<w.heap.size+1:=by have:=(Array.getElem?_eq_some_iff.1 ho).1;omega
 have hpr1:pr<w.heap.size+1:=by have:=(Array.getElem?_eq_some_iff.1 hr).1;omega
 obtain ⟨Ho,Hr⟩:=hJ2 ho hr
 have hpo:=(Array.getElem?_eq_some_iff.1 ho).1
 have hpr:=(Array.getElem?_eq_some_iff.1 hr).1
 clear ho hr
 refine callsD_of_wpS Tryz.func276 rfl fun c₀ cs hu=>?_
 apply wpS_seq
 apply wpS_region
 simp[wpOpsS,go_sem,recoverD,hu,Tryz.ntmps276,Exit.thenS]
 refine zhW #[.pointer (some ⟨pl,0,none⟩),.pointer (some ⟨po,0,none⟩),.pointer (some ⟨pr,0,none⟩),.pointer (some ⟨w.heap.size,0,none⟩),.bool true,.tuple #[.agg #[.int .i64 n,.int .i64 x.kind,.float .f64 x.num,.string x.text],.bool true],.iface 305 (.agg #[.int .i64 n,.int .i64 x.kind,.float .f64 x.num,.string x.text]),
  .tuple #[.agg #[.int .i64 n,.int .i64 x.kind,.float .f64 x.num,.string x.text],.bool true],.agg #[.int .i64 n,.int .i64 x.kind,.float .f64 x.num,.string x.text],.bool true,undef,undef,undef,undef,undef,undef,undef,undef] ?_ ?_
 · exact Array.ext' (by simp[Array.toList_replicate,List.replicate])
 refine wpS_of_wp ?_
 go_wp2_with fail
 go_region_held3 (fun w'=>w'.cell? ⟨pl,0,none⟩=some vl∧w'.cell? ⟨w.heap.size,0,none⟩=some (.int .i64 n)∧w'.cell? ⟨w.heap.size,1,none⟩=some (.int .i64 x.kind)∧w'.cell? ⟨w.heap.size,2,none⟩=some (.float .f64 x.num)∧w'.cell? ⟨w.heap.size,3,none⟩=some (.string x.text)) (go_keep)
  ((go_at_call 50;refine (zeK _ T vl l h2 hlen).mono ?_;rintro e w1 ⟨v1,rfl,hN,hE1⟩;obtain ⟨A1,c1,rfl⟩:=zC hN.1;obtain ⟨hc1,hf1⟩:=zaO hE1))
 all_goals
  have hs1:=hE1.size
  have ho1:=hE1.blk (hE.blk Ho.out id) id
  have hr1:=hE1.blk (hE.blk Hr.out id) id
  have hE2:=hE.ext hE1
  have hfin:∃ v',(((((w1.setCell ⟨po,0,none⟩ (.slice A1 l.length c1)).setCell ⟨pr,0,none⟩ (.int .i64 n)).setCell ⟨pr,1,none⟩ (.int .i64 x.kind)).setCell ⟨pr,2,none⟩ (.float .f64 x.num)).setCell ⟨pr,3,none⟩ (.string x.text)).heap[po]? = some (.cells #[v'] 38 (0,0)) ∧
    (((((w1.setCell ⟨po,0,none⟩ (.slice A1 l.length c1)).setCell ⟨pr,0,none⟩ (.int .i64 n)).setCell ⟨pr,1,none⟩ (.int .i64 x.kind)).setCell ⟨pr,2,none⟩ (.float .f64 x.num)).setCell ⟨pr,3,none⟩ (.string x.text)).heap[pr]? = some (.cells #[.int .i64 n,.int .i64 x.kind,.float .f64 x.num,.string x.text] 48 (0,0)) ∧
    zg7 w (((((w1.setCell ⟨po,0,none⟩ (.slice A1 l.length c1)).setCell ⟨pr,0,none⟩ (.int .i64 n)).setCell ⟨pr,1,none⟩ (.int .i64 x.kind)).setCell ⟨pr,2,none⟩ (.float .f64 x.num)).setCell ⟨pr,3,none⟩ (.string x.text)) v' l ∧
    Mod (fun k=>k=po∨k=pr) w (((((w1.setCell ⟨po,0,none⟩ (.slice A1 l.length c1)).setCell ⟨pr,0,none⟩ (.int .i64 n)).setCell ⟨pr,1,none⟩ (.int .i64 x.kind)).setCell ⟨pr,2,none⟩ (.float .f64 x.num)).setCell ⟨pr,3,none⟩ (.string x.text)):=by
   have hm:Mod (fun k=>k=po∨k=pr) w1 (((((w1.setCell ⟨po,0,none⟩ (.slice A1 l.length c1)).setCell ⟨pr,0,none⟩ (.int .i64 n)).setCell ⟨pr,1,none⟩ (.int .i64 x.kind)).setCell ⟨pr,2,none⟩ (.float .f64 x.num)).setCell ⟨pr,3,none⟩ (.string x.text)):=
    ((((((Mod.refl _ w1).setCell (p:=⟨po,0,none⟩) (.inr (.inl rfl)) _).setCell (p:=⟨pr,0,none⟩) (.inr (.inr rfl)) _).setCell (p:=⟨pr,1,none⟩) (.inr (.inr rfl)) _).setCell (p:=⟨pr,2,none⟩) (.inr (.inr rfl)) _).setCell (p:=⟨pr,3,none⟩) (.inr (.inr rfl)) _)
   refine ⟨.slice A1 l.length c1,?_,?_,xV (zaQ hN hE.size) hm (fun g hg e=>by have:=hN.2.2 g hg;simp at this;omega),(Ext.mod hE2 _).self hm⟩
   · simp[World.setCell,Array.getElem?_modify,ho1,hne2]
   simp[World.setCell,Array.getElem?_modify,hr1,hne]
  obtain ⟨wf,hwf⟩:∃ wf,(((((w1.setCell ⟨po,0,none⟩ (.slice A1 l.length c1)).setCell ⟨pr,0,none⟩ (.int .i64 n)).setCell ⟨pr,1,none⟩ (.int .i64 x.kind)).setCell ⟨pr,2,none⟩ (.float .f64 x.num)).setCell ⟨pr,3,none⟩ (.string x.text))=wf:=⟨_,rfl⟩
  rw[hwf] at hfin ⊢
  have Hfin:=hJ hfin
  clear hfin hwf hE2 hr1 ho1 hs1 hE1 hN hc1 hf1
  clear co fo cr0 cr1 cr2 cr3 fr0 fr1 fr2 fr3 hne2 m1 m2 m3 m4 m5 m6 hpl1 hpo1 hpr1 h2 hE Ho Hr hpo hpr hl hP hlen hlo hlr hplt
  exact ⟨rfl,_,rfl,_,by simp[results,Tryz.results276],rfl,rfl,Hfin.out⟩
theorem zfX (w:World) (o p q r:Obj):((((w.alloc o).alloc p).alloc q).alloc r).heap[w.heap.size]? = some o∧((((w.alloc o).alloc p).alloc q).alloc r).heap[w.heap.size+1]? = some p ∧
  ((((w.alloc o).alloc p).alloc q).alloc r).heap[w.heap.size+1+1]? = some q∧((((w.alloc o).alloc p).alloc q).alloc r).heap[w.heap.size+1+1+1]? = some r:=by
 have h1:(w.alloc o).heap[w.heap.size]? = some o:=heap_alloc_new w _
 have h2:((w.alloc o).alloc p).heap[w.heap.size+1]? = some p:=by have:=heap_alloc_new (w.alloc o) p;simpa using this
 have h3:(((w.alloc o).alloc p).alloc q).heap[w.heap.size+1+1]? = some q:=by have:=heap_alloc_new ((w.alloc o).alloc p) q;simpa using this
 have h4:((((w.alloc o).alloc p).alloc q).alloc r).heap[w.heap.size+1+1+1]? = some r:=by have:=heap_alloc_new (((w.alloc o).alloc p).alloc q) r;simpa using this
 refine ⟨?_,?_,?_,h4⟩
 · rw[Below.heap_alloc _ _ _ (by first|(simp;done)|(simp;omega)),Below.heap_alloc _ _ _ (by first|(simp;done)|(simp;omega)),Below.heap_alloc _ _ _ (by simp)];exact h1
 · rw[Below.heap_alloc _ _ _ (by first|(simp;done)|(simp;omega)),Below.heap_alloc _ _ _ (by simp)];exact h2
 rw[Below.heap_alloc _ _ _ (by simp)];exact h3
structure DoB (w:World) (T:Nat→Prop) (v:Value) (l:List zJ) (c:jV) (b:Nat) (wx:World):Prop where
 b0:wx.heap[b]? = some (.cells #[v] 38 (0,0))
 b1:wx.heap[b+1]? = some (.cells #[.int .i64 c.kind,.string c.key,.int .i64 c.old.kind,.float .f64 c.old.num,.string c.old.text,.int .i64 c.val.kind,.float .f64 c.val.num,.string c.val.text] 27 (0,0))
 b2:wx.heap[b+1+1]? = some (.cells #[.slice none 0 0] 38 (0,0))
 b3:wx.heap[b+1+1+1]? = some (.cells #[.int .i64 0,.int .i64 0,.float .f64 0,.string ⟨#[]⟩] 48 (0,0))
 pr:Prs wx T v l
 ext:Ext w wx
 le:w.heap.size≤b
theorem DoB.mod {w:World} {T:Nat→Prop} {v:Value} {l:List zJ} {c:jV} {b:Nat} {wx wy:World} (h:DoB w T v l c b wx) (hE:Ext wx wy):DoB w T v l c b wy:=
 ⟨hE.blk h.b0 id,hE.blk h.b1 id,hE.blk h.b2 id,hE.blk h.b3 id,h.pr.ext hE,h.ext.ext hE,h.le⟩
theorem DoB.drewmod {w:World} {T:Nat→Prop} {v:Value} {l:List zJ} {c:jV} {b:Nat} {wx wy:World} {S:Nat→Prop} (h:DoB w T v l c b wx) (hm:Mod S wx wy) (hS:∀ g,S g→b+1+1+1<g∧∀ k,T k→k<g) (hw:∀ g,S g→w.heap.size≤g):DoB w T v l c b wy:=
 ⟨hm.blk h.b0 (fun e=>by have:=hS _ e;omega),hm.blk h.b1 (fun e=>by have:=hS _ e;omega),hm.blk h.b2 (fun e=>by have:=hS _ e;omega),hm.blk h.b3 (fun e=>by have:=hS _ e;omega),
  h.pr.mod hm (fun g hT hg=>by have:=(hS g hg).2 g hT;omega),Mod.toExt ((Ext.mod h.ext (zD w.heap.size)).trans hm (fun k _ e=>hw k e)),h.le⟩
theorem DoB.lt {w:World} {T:Nat→Prop} {v:Value} {l:List zJ} {c:jV} {b:Nat} {wx:World} (h:DoB w T v l c b wx):b+1+1+1<wx.heap.size:=(Array.getElem?_eq_some_iff.1 h.b3).1
theorem zgY {w:World} {T:Nat→Prop} {v:Value} {l:List zJ} {c:jV} {b:Nat} {wx:World} (h:DoB w T v l c b wx) (hlen:l.length≤1000000) (n:Int) (x:yO) (tmps:Array Value) (h4:tmps.getD 4 undef=.pointer (some ⟨b+1+1,0,none⟩)) (h5:tmps.getD 5 undef=.pointer (some ⟨b+1+1+1,0,none⟩)):
  Leaves Tryz.prog Tryz.f176 tmps (ziY w l ⟨n,x⟩) [{ target:=.fn (Fn.func 276) #[.pointer (some ⟨b,0,none⟩),.pointer (some ⟨b+1+1,0,none⟩),.pointer (some ⟨b+1+1+1,0,none⟩)],args:=#[] }] (.panicking [{ v:=.iface 305 (.agg #[.int .i64 n,.int .i64 x.kind,.float .f64 x.num,.string x.text]),recovered:=false }]) wx:=by
 refine leaves_cons (f:=276) (args:=#[.pointer (some ⟨b,0,none⟩),.pointer (some ⟨b+1+1,0,none⟩),.pointer (some ⟨b+1+1+1,0,none⟩)]) (by simp) (by simp[go_sem]) ?_
 refine (zqS b (b+1+1) (b+1+1+1) n x wx T v l _ _ _ _ _ (zA (cs:=[v]) h.b0 rfl) h.pr hlen h.b2 h.b3 (by omega) (by omega) (by omega)).mono ?_
 rintro e u' w' ⟨rfl,rfl,v',ho,hr,hN,hm⟩
 have q0:=zA (cs:=[v']) (j:=0) ho rfl
 have r0:=zA (cs:=[.int .i64 n,.int .i64 x.kind,.float .f64 x.num,.string x.text]) (j:=0) hr rfl
 have r1:=zA (cs:=[.int .i64 n,.int .i64 x.kind,.float .f64 x.num,.string x.text]) (j:=1) hr rfl
 have r2:=zA (cs:=[.int .i64 n,.int .i64 x.kind,.float .f64 x.num,.string x.text]) (j:=2) hr rfl
 have r3:=zA (cs:=[.int .i64 n,.int .i64 x.kind,.float .f64 x.num,.string x.text]) (j:=3) hr rfl
 have hF:ziY w l ⟨n,x⟩ (.returned (.tuple #[v',.agg #[.int .i64 n,.int .i64 x.kind,.float .f64 x.num,.string x.text]])) w':=
  ⟨v',rfl,zaQ hN h.ext.size,Mod.toExt ((Ext.mod h.ext _).trans hm (fun k hk e=>by have:=h.le;unfold zD;omega))⟩
 rw[Array.getD_eq_getD_getElem?] at h4 h5
 simp[Leaves,settle,results,Tryz.results176,go_sem,q0,r0,r1,r2,r3,h4,h5]
 exact hF
end Go.Proofs.YtjbkjhhjofeldaaGreat
