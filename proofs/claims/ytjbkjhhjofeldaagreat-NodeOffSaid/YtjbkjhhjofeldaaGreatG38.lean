/-
 The contract of the page's Do, what is done. Conditions: as each theorem names them.
-/
import Derived.Test.YtjbkjhhjofeldaaGreatG37
namespace Go.Proofs.YtjbkjhhjofeldaaGreat
set_option linter.unusedSimpArgs false
open Go.RowKit
theorem zdH:yO.zero.ok:=⟨⟨by decide,by decide⟩,by decide,Nat.zero_le _⟩
theorem zqO {l:List zJ} (h:∀ p∈l,p.ok) (k:ByteArray):(zcD l k).ok:=by
 induction l with
 | nil=>exact zdH
 | cons p l ih=>
  rw[zcY]
  split
  · exact (h p (by simp)).2
  exact ih fun q hq=>h q (by simp[hq])
theorem zqP (x:Nat) (h:x<18446744073709551616):xS x<18446744073709551616:=by
 unfold xS
 split
 · decide
 exact h
theorem addF_lt (a b:Nat):zlJ a b<18446744073709551616:=by
 unfold zlJ
 split
 · rename_i r hr
   exact zqP r (FloatKind.f64.format.add_lt hr)
 decide
theorem maxF_lt {a b:Nat} (ha:a<18446744073709551616) (hb:b<18446744073709551616):zn1 a b<18446744073709551616:=by
 unfold zn1
 split
 · decide
 split
 · exact hb
 exact ha
theorem zmJ {add:Bool} {a b x:yO} {n:Int} (ha:a.ok) (hb:b.ok) (h:zbU add a b=(x,n)):x.ok:=by
 unfold zbU at h
 split at h
 · simp only[Prod.mk.injEq] at h;rw[←h.1];exact zdH
 split at h
 · simp only[Prod.mk.injEq] at h;rw[←h.1];exact zdH
 split at h
 · simp only[Prod.mk.injEq] at h;rw[←h.1];exact hb
 split at h
 · simp only[Prod.mk.injEq] at h;rw[←h.1];exact zdH
 simp only[Prod.mk.injEq] at h
 rw[←h.1]
 refine ⟨⟨by show (-9223372036854775808:Int)≤1;decide,by show (1:Int)≤9223372036854775807;decide⟩,?_,Nat.zero_le _⟩
 cases add
 · exact maxF_lt ha.2.1 hb.2.1
 exact addF_lt _ _
theorem step_ok2 {v x t:yO} {c:jV} {n:Int} (hv:v.ok) (hc:c.val.ok) (h:za1 v c=(n,x,t)):x.ok∧t.ok:=by
 unfold za1 at h
 split at h
 · simp only[Prod.mk.injEq] at h;rw[←h.2.1,←h.2.2];exact ⟨hc,hv⟩
 split at h
 · simp only[Prod.mk.injEq] at h;rw[←h.2.1,←h.2.2];exact ⟨zdH,hv⟩
 split at h
 ·
  split at h
  · simp only[Prod.mk.injEq] at h;rw[←h.2.1,←h.2.2];exact ⟨hc,hv⟩
  simp only[Prod.mk.injEq] at h;rw[←h.2.1,←h.2.2];exact ⟨hv,hv⟩
 split at h
 rename_i y e hj
 have:=zmJ hv hc hj
 split at h
 · simp only[Prod.mk.injEq] at h;rw[←h.2.1,←h.2.2];exact ⟨this,this⟩
 simp only[Prod.mk.injEq] at h;rw[←h.2.1,←h.2.2];exact ⟨zdH,zdH⟩
theorem do_bad {l:List zJ} {c:jV} {n:Int} (hn:n≠0) (hc:zcP c=n∨(zcP c=0∧xG l=false∧n=6)):doP l c=(l,⟨n,yO.zero⟩):=by
 unfold doP
 rcases hc with h|⟨h,h',rfl⟩
 · rw[if_pos (by rw[h];exact hn),h]
 rw[if_neg (by simpa using h),if_pos h']
theorem do_get1 {l:List zJ} {c:jV} (hc:zcP c=0) (hl:xG l=true) (h1:c.kind=1):doP l c=(l,⟨0,zcD l c.key⟩):=by
 unfold doP
 rw[if_neg (by simpa using hc),hl,if_neg (by simp),if_pos h1]
set_option maxRecDepth 100000
set_option maxHeartbeats 4000000
def DoK (w:World) (v:Value) (r:List zJ×yH) (e:Ending) (w':World):Prop:=
 Mod (fun k=>v.ownBlock=some k) w w' ∧
 ((r.2.code=0∧∃ v',e=.returned (.tuple #[v',.agg #[.int .i64 r.2.code,.int .i64 r.2.val.kind,.float .f64 r.2.val.num,.string r.2.val.text]])∧Own w' v' r.1∧∀ g,v'.ownBlock=some g→v.ownBlock=some g∨w.heap.size≤g) ∨
  (r.2.code≠0∧e=ze5 r.2.code r.2.val))
structure DoT (w:World) (v:Value) (b q:Nat) (L:List zJ) (t:yO) (v':Value) (wx:World):Prop where
 own:Own wx v' L
 far:∀ g,v'.ownBlock=some g→(v.ownBlock=some g∨w.heap.size≤g)∧g≠b+1
 bq:wx.heap[q]? = some (.cells #[.int .i64 0,.int .i64 t.kind,.float .f64 t.num,.string t.text] 48 (0,0))
 b5:wx.heap[b+1]? = some (.cells #[.int .i64 0,.int .i64 0,.float .f64 0,.string ⟨#[]⟩] 48 (0,0))
 ne:q≠b+1
 mod:Mod (fun k=>v.ownBlock=some k) w wx
structure DoH (w:World) (v:Value) (c:jV) (b r q:Nat) (l:List zJ) (x:yO) (wx:World):Prop where
 own:Own wx v l
 b3:wx.heap[b]? = some (.cells #[.int .i64 c.kind,.string c.key,.int .i64 c.old.kind,.float .f64 c.old.num,.string c.old.text,.int .i64 c.val.kind,.float .f64 c.val.num,.string c.val.text] 27 (0,0))
 b5:wx.heap[b+1]? = some (.cells #[.int .i64 0,.int .i64 0,.float .f64 0,.string ⟨#[]⟩] 48 (0,0))
 br:wx.heap[r]? = some (.cells #[.int .i64 x.kind,.float .f64 x.num,.string x.text] 25 (0,0))
 bq:wx.heap[q]? = some (.cells #[.int .i64 0,.int .i64 x.kind,.float .f64 x.num,.string x.text] 48 (0,0))
 b0:w.heap.size≤b
 r0:b+1<r
 q0:r<q
 lo:∀ g,v.ownBlock=some g→g<w.heap.size
 ext:Ext w wx
theorem DoH.lt {w:World} {v:Value} {c:jV} {b r q:Nat} {l:List zJ} {x:yO} {wx:World} (h:DoH w v c b r q l x wx):q<wx.heap.size:=(Array.getElem?_eq_some_iff.1 h.bq).1
theorem DoH.mod {w:World} {v:Value} {c:jV} {b r q:Nat} {l:List zJ} {x:yO} {wx wy:World} (h:DoH w v c b r q l x wx) (hE:Ext wx wy):DoH w v c b r q l x wy:=
 ⟨h.own.mod hE (fun _ _=>id),hE.blk h.b3 id,hE.blk h.b5 id,hE.blk h.br id,hE.blk h.bq id,h.b0,h.r0,h.q0,h.lo,h.ext.ext hE⟩
theorem DoH.put {w:World} {v:Value} {c:jV} {b r q:Nat} {l L:List zJ} {x:yO} {wx wy:World} {v':Value} (h:DoH w v c b r q l x wx) (ho:Own wy v' L) (hg:∀ g,v'.ownBlock=some g→v.ownBlock=some g∨wx.heap.size≤g)
  (hm:Mod (fun k=>v.ownBlock=some k) wx wy):DoT w v b q L x v' wy:=by
 have hq:=h.lt
 have h1:=h.b0
 have h2:=h.r0
 have h3:=h.q0
 refine ⟨ho,fun g hgg=>?_,hm.blk h.bq (fun e=>by have:=h.lo q e;omega),hm.blk h.b5 (fun e=>by have:=h.lo _ e;omega),by omega,(h.ext.mod _).self hm⟩
 rcases hg g hgg with e|e
 · exact ⟨.inl e,by have:=h.lo g e;omega⟩
 exact ⟨.inr (by omega),by omega⟩
theorem DoH.stay {w:World} {v:Value} {c:jV} {b r q:Nat} {l:List zJ} {x:yO} {wx:World} (h:DoH w v c b r q l x wx):DoT w v b q l x v wx:=
 h.put h.own (fun _ hg=>.inl hg) (Mod.refl _ _)
theorem DoH.tell {w:World} {v:Value} {c:jV} {b r q:Nat} {l:List zJ} {x:yO} {wx:World} (h:DoH w v c b r q l x wx) (y:yO):
  Own (((wx.setCell ⟨q,1,none⟩ (.int .i64 y.kind)).setCell ⟨q,2,none⟩ (.float .f64 y.num)).setCell ⟨q,3,none⟩ (.string y.text)) v l ∧
  (((wx.setCell ⟨q,1,none⟩ (.int .i64 y.kind)).setCell ⟨q,2,none⟩ (.float .f64 y.num)).setCell ⟨q,3,none⟩ (.string y.text)).heap[q]? = some (.cells #[.int .i64 0,.int .i64 y.kind,.float .f64 y.num,.string y.text] 48 (0,0)) ∧
  Mod (fun k=>k=q) wx (((wx.setCell ⟨q,1,none⟩ (.int .i64 y.kind)).setCell ⟨q,2,none⟩ (.float .f64 y.num)).setCell ⟨q,3,none⟩ (.string y.text)):=by
 have hm:Mod (fun k=>k=q) wx (((wx.setCell ⟨q,1,none⟩ (.int .i64 y.kind)).setCell ⟨q,2,none⟩ (.float .f64 y.num)).setCell ⟨q,3,none⟩ (.string y.text)):=zM (zM (zM (Mod.refl _ wx) _ _) _ _) _ _
 have h1:=h.b0
 have h2:=h.r0
 have h3:=h.q0
 refine ⟨h.own.mod hm (fun g hg _=>by have:=h.lo g hg;omega),?_,hm⟩
 have:=h.bq
 simp[World.setCell,Array.getElem?_modify,this]
theorem DoH.telld {w:World} {v:Value} {c:jV} {b r q:Nat} {l:List zJ} {x:yO} {wx:World} (h:DoH w v c b r q l x wx) (y:yO):
  Mod (fun k=>v.ownBlock=some k) w (((wx.setCell ⟨q,1,none⟩ (.int .i64 y.kind)).setCell ⟨q,2,none⟩ (.float .f64 y.num)).setCell ⟨q,3,none⟩ (.string y.text)):=by
 have h1:=h.b0
 have h2:=h.r0
 have h3:=h.q0
 exact (Ext.mod h.ext _).trans (h.tell y).2.2 (fun k hk e=>by omega)
theorem DoH.put2 {w:World} {v:Value} {c:jV} {b r q:Nat} {l L:List zJ} {x:yO} {wx wy:World} {v':Value} (h:DoH w v c b r q l x wx) (y:yO) (ho:Own wy v' L) (hg:∀ g,v'.ownBlock=some g→v.ownBlock=some g∨wx.heap.size≤g)
  (hm:Mod (fun k=>v.ownBlock=some k) (((wx.setCell ⟨q,1,none⟩ (.int .i64 y.kind)).setCell ⟨q,2,none⟩ (.float .f64 y.num)).setCell ⟨q,3,none⟩ (.string y.text)) wy):DoT w v b q L y v' wy:=by
 have hq:=h.lt
 have h1:=h.b0
 have h2:=h.r0
 have h3:=h.q0
 obtain ⟨_,t2,t3⟩:=h.tell y
 refine ⟨ho,fun g hgg=>?_,hm.blk t2 (fun e=>by have:=h.lo q e;omega),hm.blk (t3.blk h.b5 (by omega)) (fun e=>by have:=h.lo _ e;omega),by omega,(h.telld y).self hm⟩
 rcases hg g hgg with e|e
 · exact ⟨.inl e,by have:=h.lo g e;omega⟩
 exact ⟨.inr (by omega),by omega⟩
theorem do_get_k (w:World) (v:Value) (l:List zJ) (c:jV) (hO:Own w v l) (x:yO) (hx:zcD l c.key=x) (hk:c.kind=1):
  Calls Tryz.prog 279 #[v,.agg #[.int .i64 c.kind,.string c.key,.int .i64 c.old.kind,.float .f64 c.old.num,.string c.old.text,.int .i64 c.val.kind,.float .f64 c.val.num,.string c.val.text]] w (DoK w v (l,⟨0,x⟩)):=by
 have d2:(c.kind==2)=false:=by simp[hk]
 have d3:(c.kind==3)=false:=by simp[hk]
 have d4:(c.kind==4)=false:=by simp[hk]
 have d5:(c.kind==5)=false:=by simp[hk]
 have d6:(c.kind==6)=false:=by simp[hk]
 clear hk
 have hlo:∀ g,v.ownBlock=some g→g<w.heap.size:=fun g hg=>(hO.1.lt g hg).2
 go_enter Tryz.func279,Tryz.ntmps279
 go_wp2_with fail
 obtain ⟨W0,hW0⟩:∃ W0,W0=(w.alloc (.cells #[.int .i64 c.kind,.string c.key,.int .i64 c.old.kind,.float .f64 c.old.num,.string c.old.text,.int .i64 c.val.kind,.float .f64 c.val.num,.string c.val.text] 27)).alloc (.cells #[.int .i64 0,.int .i64 0,.float .f64 0,.string ⟨#[]⟩] 48):=⟨_,rfl⟩
 obtain ⟨b3,hb3⟩:∃ b3,b3=w.heap.size:=⟨_,rfl⟩
 obtain ⟨hB3,hB5,hZ0⟩:=xY w (.cells #[.int .i64 c.kind,.string c.key,.int .i64 c.old.kind,.float .f64 c.old.num,.string c.old.text,.int .i64 c.val.kind,.float .f64 c.val.num,.string c.val.text] 27) (.cells #[.int .i64 0,.int .i64 0,.float .f64 0,.string ⟨#[]⟩] 48)
 have hE:Ext w W0:=by rw[hW0];exact ((Mod.refl _ w).alloc _).alloc _
 rw[←hW0,←hb3] at hB3 hB5 hZ0 ⊢
 have hZ:w.heap.size≤b3:=Nat.le_of_eq hb3.symm
 have hO0:=hO.mod hE (fun _ _=>id)
 clear hW0 hb3
 refine (zj4 W0 _ v l c.key hO0.prs).mono ?_
 rintro e w1 ⟨rfl,hE1⟩
 rw[hx]
 have hs1:=hE1.size
 have k1:w1.cell? ⟨b3,1,none⟩=some (.string c.key):=hE1.cell (zA hB3 rfl) id
 have k0:w1.cell? ⟨b3,0,none⟩=some (.int .i64 c.kind):=hE1.cell (zA hB3 rfl) id
 have hb3w:b3<w1.heap.size:=by omega
 go_upto_block 0 with fail
 obtain ⟨W2,hW2⟩:∃ W2,W2=(w1.alloc (.cells #[.int .i64 x.kind,.float .f64 x.num,.string x.text] 25)).alloc (.cells #[.int .i64 0,.int .i64 x.kind,.float .f64 x.num,.string x.text] 48):=⟨_,rfl⟩
 obtain ⟨hBr,hBq,hZ2⟩:=xY w1 (.cells #[.int .i64 x.kind,.float .f64 x.num,.string x.text] 25) (.cells #[.int .i64 0,.int .i64 x.kind,.float .f64 x.num,.string x.text] 48)
 have hE2:Ext w1 W2:=by rw[hW2];exact ((Mod.refl _ w1).alloc _).alloc _
 rw[←hW2] at hBr hBq hZ2 ⊢
 obtain ⟨r,hr⟩:∃ r,r=w1.heap.size:=⟨_,rfl⟩
 rw[←hr] at hBr hBq ⊢
 have hH:DoH w v c b3 r (r+1) l x W2:=⟨hO0.mod (hE1.ext hE2) (fun _ _=>id),(hE1.ext hE2).blk hB3 id,(hE1.ext hE2).blk hB5 id,hBr,hBq,hZ,by omega,by omega,hlo,hE.ext (hE1.ext hE2)⟩
 have HH:=hJ hH
 clear k0 k1 hb3w hW2 hr hBr hBq hZ2 hE2 hE1 hs1 hO0 hB3 hB5 hZ0 hE hx
 go_cut [0,8] (fun s0 _ wx=>DoT w v b3 (r+1) l x s0 wx)
 case first=>
  obtain ⟨k0,k1,k2,k3,k4,k5,k6,k7⟩:=cq8 hH.b3
  obtain ⟨g0,g1,g2,g3⟩:=cq4 hH.b5
  have f0:W2.frozen? ⟨b3+1,0,none⟩=false:=zB 0 hH.b5
  have f1:W2.frozen? ⟨b3+1,1,none⟩=false:=zB 1 hH.b5
  have f2:W2.frozen? ⟨b3+1,2,none⟩=false:=zB 2 hH.b5
  have f3:W2.frozen? ⟨b3+1,3,none⟩=false:=zB 3 hH.b5
  obtain ⟨r0,r1,r2⟩:=cq3 hH.br
  obtain ⟨q0,q1,q2,q3⟩:=cq4 hH.bq
  have p0:W2.frozen? ⟨r+1,0,none⟩=false:=zB 0 hH.bq
  have p1:W2.frozen? ⟨r+1,1,none⟩=false:=zB 1 hH.bq
  have p2:W2.frozen? ⟨r+1,2,none⟩=false:=zB 2 hH.bq
  have p3:W2.frozen? ⟨r+1,3,none⟩=false:=zB 3 hH.bq
  clear hH
  go_wp2_with fail
  go_meet
  exact HH.out.stay
 have hT:=hcut
 obtain ⟨g0,g1,g2,g3⟩:=cq4 hT.b5
 have f0:wc.frozen? ⟨b3+1,0,none⟩=false:=zB 0 hT.b5
 have f1:wc.frozen? ⟨b3+1,1,none⟩=false:=zB 1 hT.b5
 have f2:wc.frozen? ⟨b3+1,2,none⟩=false:=zB 2 hT.b5
 have f3:wc.frozen? ⟨b3+1,3,none⟩=false:=zB 3 hT.b5
 obtain ⟨q0,q1,q2,q3⟩:=cq4 hT.bq
 have hne:¬ r=b3:=fun e=>hT.ne (by rw[e])
 have hne2:¬ b3=r:=fun e=>hT.ne (by rw[e])
 have HT:=hJ hT
 clear hT hcut
 go_wp2_with fail
 go_region_held3 (fun w'=>w'.cell? ⟨r+1,0,none⟩=some (.int .i64 0)∧w'.cell? ⟨r+1,1,none⟩=some (.int .i64 x.kind)∧w'.cell? ⟨r+1,2,none⟩=some (.float .f64 x.num)∧w'.cell? ⟨r+1,3,none⟩=some (.string x.text)) (go_keep) (fail)
 all_goals
  go_wp2_with fail
  refine bodyPost_ret (v:=.tuple #[u0,.agg #[.int .i64 0,.int .i64 x.kind,.float .f64 x.num,.string x.text]]) (by simp[results,Tryz.results279,go_sem,g0,g1,g2,g3]) rfl ?_
  have hm:∀ {a b c d},Mod (fun k=>k=b3+1) wc (((((wc.setCell ⟨b3+1,0,none⟩ a).setCell ⟨b3+1,1,none⟩ b).setCell ⟨b3+1,2,none⟩ c).setCell ⟨b3+1,3,none⟩ d).drew):=fun {_ _ _ _}=>(zM (zM (zM (zM (Mod.refl _ wc) _ _) _ _) _ _) _ _).drew
  refine ⟨HT.out.mod.trans hm (fun k hk e=>by omega),.inl ⟨rfl,_,rfl,HT.out.own.mod hm (fun g hg e=>(HT.out.far g hg).2 e),fun g hg=>(HT.out.far g hg).1⟩⟩
theorem zj9 (w:World) (v:Value) (l:List zJ) (c:jV) (hO:Own w v l) (hs:Srt l) (hl:l.length≤32) (x:yO) (hx:zcD l c.key=x) (hks:c.key.size≤maxLen) (hcv:c.val.ok) (hxok:x.ok) (y t:yO) (hy:y.ok) (hk6:2≤c.kind∧c.kind≤6) (hst:za1 x c=(0,y,t)) (m:Nat) (hm:(zeR c.key y (y.kind==0) l).length=m)
  (lo:List zJ) (ro:yH) (hlo':(if 32<m then (l,⟨5,yO.zero⟩) else (zeR c.key y (y.kind==0) l,⟨0,t⟩))=(lo,ro)):
  Calls Tryz.prog 279 #[v,.agg #[.int .i64 c.kind,.string c.key,.int .i64 c.old.kind,.float .f64 c.old.num,.string c.old.text,.int .i64 c.val.kind,.float .f64 c.val.num,.string c.val.text]] w (DoK w v (lo,ro)):=by
 obtain ⟨Hlo,Hy,Hxok,Hcv,Hst,Hm,Hks⟩:=hJ7 hlo' hy hxok hcv hst hm hks
 clear hks hcv hxok hst hm hy hlo'
 have hlo:∀ g,v.ownBlock=some g→g<w.heap.size:=fun g hg=>(hO.1.lt g hg).2
 go_enter Tryz.func279,Tryz.ntmps279
 go_wp2_with fail
 obtain ⟨W0,hW0⟩:∃ W0,W0=(w.alloc (.cells #[.int .i64 c.kind,.string c.key,.int .i64 c.old.kind,.float .f64 c.old.num,.string c.old.text,.int .i64 c.val.kind,.float .f64 c.val.num,.string c.val.text] 27)).alloc (.cells #[.int .i64 0,.int .i64 0,.float .f64 0,.string ⟨#[]⟩] 48):=⟨_,rfl⟩
 obtain ⟨b3,hb3⟩:∃ b3,b3=w.heap.size:=⟨_,rfl⟩
 obtain ⟨hB3,hB5,hZ0⟩:=xY w (.cells #[.int .i64 c.kind,.string c.key,.int .i64 c.old.kind,.float .f64 c.old.num,.string c.old.text,.int .i64 c.val.kind,.float .f64 c.val.num,.string c.val.text] 27) (.cells #[.int .i64 0,.int .i64 0,.float .f64 0,.string ⟨#[]⟩] 48)
 have hE:Ext w W0:=by rw[hW0];exact ((Mod.refl _ w).alloc _).alloc _
 rw[←hW0,←hb3] at hB3 hB5 hZ0 ⊢
 have hZ:w.heap.size≤b3:=Nat.le_of_eq hb3.symm
 have hO0:=hO.mod hE (fun _ _=>id)
 clear hW0 hb3
 refine (zj4 W0 _ v l c.key hO0.prs).mono ?_
 rintro e w1 ⟨rfl,hE1⟩
 rw[hx]
 have hs1:=hE1.size
 have k1:w1.cell? ⟨b3,1,none⟩=some (.string c.key):=hE1.cell (zA hB3 rfl) id
 have k0:w1.cell? ⟨b3,0,none⟩=some (.int .i64 c.kind):=hE1.cell (zA hB3 rfl) id
 have hb3w:b3<w1.heap.size:=by omega
 go_upto_block 0 with fail
 obtain ⟨W2,hW2⟩:∃ W2,W2=(w1.alloc (.cells #[.int .i64 x.kind,.float .f64 x.num,.string x.text] 25)).alloc (.cells #[.int .i64 0,.int .i64 x.kind,.float .f64 x.num,.string x.text] 48):=⟨_,rfl⟩
 obtain ⟨hBr,hBq,hZ2⟩:=xY w1 (.cells #[.int .i64 x.kind,.float .f64 x.num,.string x.text] 25) (.cells #[.int .i64 0,.int .i64 x.kind,.float .f64 x.num,.string x.text] 48)
 have hE2:Ext w1 W2:=by rw[hW2];exact ((Mod.refl _ w1).alloc _).alloc _
 rw[←hW2] at hBr hBq hZ2 ⊢
 obtain ⟨r,hr⟩:∃ r,r=w1.heap.size:=⟨_,rfl⟩
 rw[←hr] at hBr hBq ⊢
 have hH:DoH w v c b3 r (r+1) l x W2:=⟨hO0.mod (hE1.ext hE2) (fun _ _=>id),(hE1.ext hE2).blk hB3 id,(hE1.ext hE2).blk hB5 id,hBr,hBq,hZ,by omega,by omega,hlo,hE.ext (hE1.ext hE2)⟩
 have HH:=hJ hH
 clear k0 k1 hb3w hW2 hr hBr hBq hZ2 hE2 hE1 hs1 hO0 hB3 hB5 hZ0 hE hx
 have Hbad:Hid (∀ w3,32<m→Mod (fun k=>v.ownBlock=some k) w w3→DoK w v (lo,ro) (ze5 5 yO.zero) w3):=hJ (fun w3 h hm=>by
  have e:=Hlo.out
  rw[if_pos h] at e
  simp only[Prod.mk.injEq] at e
  obtain ⟨rfl,rfl⟩:=e
  exact ⟨hm,.inr ⟨show (5:Int)≠0 by decide,rfl⟩⟩)
 obtain ⟨L,hL⟩:∃ L,L=zeR c.key y (y.kind==0) l:=⟨_,rfl⟩
 go_cut [0,8] (fun s0 _ wx=>m≤32∧DoT w v b3 (r+1) L t s0 wx)
 case first=>
  obtain ⟨k0,k1,k2,k3,k4,k5,k6,k7⟩:=cq8 hH.b3
  obtain ⟨g0,g1,g2,g3⟩:=cq4 hH.b5
  have f0:W2.frozen? ⟨b3+1,0,none⟩=false:=zB 0 hH.b5
  have f1:W2.frozen? ⟨b3+1,1,none⟩=false:=zB 1 hH.b5
  have f2:W2.frozen? ⟨b3+1,2,none⟩=false:=zB 2 hH.b5
  have f3:W2.frozen? ⟨b3+1,3,none⟩=false:=zB 3 hH.b5
  obtain ⟨r0,r1,r2⟩:=cq3 hH.br
  obtain ⟨q0,q1,q2,q3⟩:=cq4 hH.bq
  have p0:W2.frozen? ⟨r+1,0,none⟩=false:=zB 0 hH.bq
  have p1:W2.frozen? ⟨r+1,1,none⟩=false:=zB 1 hH.bq
  have p2:W2.frozen? ⟨r+1,2,none⟩=false:=zB 2 hH.bq
  have p3:W2.frozen? ⟨r+1,3,none⟩=false:=zB 3 hH.bq
  have hcase:c.kind=2∨c.kind=3∨c.kind=4∨(c.kind=5∨c.kind=6):=by omega
  clear hH
  rcases hcase with hk|hk|hk|hk
  ·
   have d2:(c.kind==2)=true:=by simp[hk]
   have e:=Hst.out
   unfold za1 at e
   rw[if_pos hk] at e
   simp only[Prod.mk.injEq,true_and] at e
   have He:=hJ e
   clear hk e hk6
   go_wp2_with fail
   refine (zmI W2 v l c.key c.val HH.out.own hs hl Hks.out Hcv.out).mono ?_
   rintro e w3 h3
   rw[He.out.1,←hL] at h3
   rcases h3 with ⟨h32,v3,rfl,ho3,hg3,hm3⟩|⟨h32,rfl,hE3⟩
   ·
    have HF:=hJ (HH.out.put ho3 hg3 hm3)
    rw[He.out.2] at HF
    have H32:Hid (m≤32):=hJ (by rw[hL,Hm.out] at h32;exact h32)
    clear ho3 hg3 hm3 h32
    go_wp2_with fail
    go_meet
    exact ⟨H32.out,HF.out⟩
   exact ⟨rfl,Hbad.out _ (by rw[hL,Hm.out] at h32;exact h32) ((Ext.mod HH.out.ext _).self (Ext.mod hE3 _))⟩
  ·
   have d2:(c.kind==2)=false:=by simp[hk]
   have d3:(c.kind==3)=true:=by simp[hk]
   have e:=Hst.out
   unfold za1 at e
   rw[if_neg (by omega),if_pos hk] at e
   simp only[Prod.mk.injEq,true_and] at e
   have He:=hJ e
   clear hk e hk6
   go_wp2_with fail
   refine (zmI W2 v l c.key yO.zero HH.out.own hs hl Hks.out zdH).mono ?_
   rintro e w3 h3
   rw[He.out.1,←hL] at h3
   rcases h3 with ⟨h32,v3,rfl,ho3,hg3,hm3⟩|⟨h32,rfl,hE3⟩
   ·
    have HF:=hJ (HH.out.put ho3 hg3 hm3)
    rw[He.out.2] at HF
    have H32:Hid (m≤32):=hJ (by rw[hL,Hm.out] at h32;exact h32)
    clear ho3 hg3 hm3 h32
    go_wp2_with fail
    go_meet
    exact ⟨H32.out,HF.out⟩
   exact ⟨rfl,Hbad.out _ (by rw[hL,Hm.out] at h32;exact h32) ((Ext.mod HH.out.ext _).self (Ext.mod hE3 _))⟩
  ·
   have d2:(c.kind==2)=false:=by simp[hk]
   have d3:(c.kind==3)=false:=by simp[hk]
   have d4:(c.kind==4)=true:=by simp[hk]
   have e:=Hst.out
   unfold za1 at e
   rw[if_neg (by omega),if_neg (by omega),if_pos hk] at e
   have he:zbD x c.old=true:=by
    rcases h:zbD x c.old with _|_
    · rw[h] at e;simp at e
    rfl
   rw[he] at e
   simp only[if_true,Prod.mk.injEq,true_and] at e
   have He:=hJ e
   clear hk e hk6
   go_wp2_with fail
   refine (v_same x c.old _).mono ?_
   rintro e w4 ⟨rfl,hE4⟩
   have hH4:=HH.out.mod hE4
   rw[he]
   clear k0 k1 k2 k3 k4 k5 k6 k7 g0 g1 g2 g3 f0 f1 f2 f3 q0 q1 q2 q3 p0 p1 p2 p3 r0 r1 r2
   clear hE4 he
   obtain ⟨ak0,ak1,ak2,ak3,ak4,ak5,ak6,ak7⟩:=cq8 hH4.b3
   obtain ⟨ag0,ag1,ag2,ag3⟩:=cq4 hH4.b5
   have af0:w4.frozen? ⟨b3+1,0,none⟩=false:=zB 0 hH4.b5
   have af1:w4.frozen? ⟨b3+1,1,none⟩=false:=zB 1 hH4.b5
   have af2:w4.frozen? ⟨b3+1,2,none⟩=false:=zB 2 hH4.b5
   have af3:w4.frozen? ⟨b3+1,3,none⟩=false:=zB 3 hH4.b5
   obtain ⟨ar0,ar1,ar2⟩:=cq3 hH4.br
   obtain ⟨aq0,aq1,aq2,aq3⟩:=cq4 hH4.bq
   have ap0:w4.frozen? ⟨r+1,0,none⟩=false:=zB 0 hH4.bq
   have ap1:w4.frozen? ⟨r+1,1,none⟩=false:=zB 1 hH4.bq
   have ap2:w4.frozen? ⟨r+1,2,none⟩=false:=zB 2 hH4.bq
   have ap3:w4.frozen? ⟨r+1,3,none⟩=false:=zB 3 hH4.bq
   have HH4:=hJ hH4
   clear hH4
   go_wp2_with fail
   refine (zmI w4 v l c.key c.val HH4.out.own hs hl Hks.out Hcv.out).mono ?_
   rintro e w3 h3
   rw[He.out.1,←hL] at h3
   rcases h3 with ⟨h32,v3,rfl,ho3,hg3,hm3⟩|⟨h32,rfl,hE3⟩
   ·
    have HF:=hJ (HH4.out.put ho3 hg3 hm3)
    rw[He.out.2] at HF
    have H32:Hid (m≤32):=hJ (by rw[hL,Hm.out] at h32;exact h32)
    clear ho3 hg3 hm3 h32
    go_wp2_with fail
    go_meet
    exact ⟨H32.out,HF.out⟩
   exact ⟨rfl,Hbad.out _ (by rw[hL,Hm.out] at h32;exact h32) ((Ext.mod HH4.out.ext _).self (Ext.mod hE3 _))⟩
  obtain ⟨add,hadd⟩:∃ add,(c.kind==5)=add:=⟨_,rfl⟩
  have e:=Hst.out
  unfold za1 at e
  rw[if_neg (by omega),if_neg (by omega),if_neg (by omega),hadd] at e
  rcases hj:zbU add x c.val with ⟨z,n⟩
  rw[hj] at e
  simp only at e
  have hn:n=0:=by
   apply Classical.byContradiction
   intro hn
   rw[if_neg hn] at e
   simp only[Prod.mk.injEq] at e
   exact hn e.1
  subst hn
  simp only[if_true,Prod.mk.injEq,true_and] at e
  obtain ⟨e1,e2⟩:=e
  rw[e1] at hj
  have Het:Hid (t=y):=hJ (by rw[←e2,e1])
  clear e1 e2 hk6
  rcases hk with hk|hk
  focus
   have d2:(c.kind==2)=false:=by simp[hk]
   have d3:(c.kind==3)=false:=by simp[hk]
   have d4:(c.kind==4)=false:=by simp[hk]
   have d5:(c.kind==5)=true:=by simp[hk]
   have ha:add=true:=by rw[←hadd];exact d5
   subst ha
   have HJ:=hJ hj
   clear hk hj hadd
   go_wp2_with fail
   refine (v_add x c.val _).mono ?_
  rotate_left
  focus
   have d2:(c.kind==2)=false:=by simp[hk]
   have d3:(c.kind==3)=false:=by simp[hk]
   have d4:(c.kind==4)=false:=by simp[hk]
   have d5:(c.kind==5)=false:=by simp[hk]
   have d6:(c.kind==6)=true:=by simp[hk]
   have ha:add=false:=by rw[←hadd];exact d5
   subst ha
   have HJ:=hJ hj
   clear hk hj hadd
   go_wp2_with fail
   refine (v_max x c.val Hxok.out.2.1 Hcv.out.2.1 _).mono ?_
  all_goals
   rintro e w4 ⟨rfl,hE4⟩
   rw[HJ.out]
   have hH4:=HH.out.mod hE4
   have n1:¬ b3=r+1:=by have:=hH4.r0;omega
   have n2:¬ r+1=b3:=by have:=hH4.r0;omega
   clear k0 k1 k2 k3 k4 k5 k6 k7 g0 g1 g2 g3 f0 f1 f2 f3 q0 q1 q2 q3 p0 p1 p2 p3 r0 r1 r2
   clear hE4
   obtain ⟨ak0,ak1,ak2,ak3,ak4,ak5,ak6,ak7⟩:=cq8 hH4.b3
   obtain ⟨ag0,ag1,ag2,ag3⟩:=cq4 hH4.b5
   have af0:w4.frozen? ⟨b3+1,0,none⟩=false:=zB 0 hH4.b5
   have af1:w4.frozen? ⟨b3+1,1,none⟩=false:=zB 1 hH4.b5
   have af2:w4.frozen? ⟨b3+1,2,none⟩=false:=zB 2 hH4.b5
   have af3:w4.frozen? ⟨b3+1,3,none⟩=false:=zB 3 hH4.b5
   obtain ⟨ar0,ar1,ar2⟩:=cq3 hH4.br
   obtain ⟨aq0,aq1,aq2,aq3⟩:=cq4 hH4.bq
   have ap0:w4.frozen? ⟨r+1,0,none⟩=false:=zB 0 hH4.bq
   have ap1:w4.frozen? ⟨r+1,1,none⟩=false:=zB 1 hH4.bq
   have ap2:w4.frozen? ⟨r+1,2,none⟩=false:=zB 2 hH4.bq
   have ap3:w4.frozen? ⟨r+1,3,none⟩=false:=zB 3 hH4.bq
   have HH4:=hJ hH4
   clear hH4
   go_wp2_with fail
   refine (zaP _).mono ?_
   rintro e w5 ⟨rfl,rfl⟩
   go_wp2_with fail
   refine (zmI _ v l c.key y (HH4.out.tell y).1 hs hl Hks.out Hy.out).mono ?_
   rintro e w3 h3
   rw[←hL] at h3
   rcases h3 with ⟨h32,v3,rfl,ho3,hg3,hm3⟩|⟨h32,rfl,hE3⟩
   ·
    have HF:=hJ (HH4.out.put2 y ho3 (fun g hg=>by have:=hg3 g hg;simpa [World.setCell] using this) hm3)
    rw[←Het.out] at HF
    have H32:Hid (m≤32):=hJ (by rw[hL,Hm.out] at h32;exact h32)
    clear ho3 hg3 hm3 h32
    go_wp2_with fail
    go_meet
    exact ⟨H32.out,HF.out⟩
   exact ⟨rfl,Hbad.out _ (by rw[hL,Hm.out] at h32;exact h32) ((HH4.out.telld y).self (Ext.mod hE3 _))⟩
 have h32:=hcut.1
 have hcut:=hcut.2
 have hgood:Hid (∀ w' v',(Own w' v' L∧∀ g,v'.ownBlock=some g→v.ownBlock=some g∨w.heap.size≤g)→(ro.code=0∧∃ v'',Ending.returned (.tuple #[v',.agg #[.int .i64 0,.int .i64 t.kind,.float .f64 t.num,.string t.text]])=.returned (.tuple #[v'',.agg #[.int .i64 ro.code,.int .i64 ro.val.kind,.float .f64 ro.val.num,.string ro.val.text]])∧Own w' v'' lo∧∀ g,v''.ownBlock=some g→v.ownBlock=some g∨w.heap.size≤g) ∨
   (ro.code≠0∧Ending.returned (.tuple #[v',.agg #[.int .i64 0,.int .i64 t.kind,.float .f64 t.num,.string t.text]])=ze5 ro.code ro.val)):=hJ (fun w' v' h=>by
  have e:=Hlo.out
  rw[if_neg (by omega)] at e
  simp only[Prod.mk.injEq] at e
  obtain ⟨e1,rfl⟩:=e
  rw[←e1,←hL]
  exact .inl ⟨rfl,v',rfl,h⟩)
 clear h32
 have hT:=hcut
 obtain ⟨g0,g1,g2,g3⟩:=cq4 hT.b5
 have f0:wc.frozen? ⟨b3+1,0,none⟩=false:=zB 0 hT.b5
 have f1:wc.frozen? ⟨b3+1,1,none⟩=false:=zB 1 hT.b5
 have f2:wc.frozen? ⟨b3+1,2,none⟩=false:=zB 2 hT.b5
 have f3:wc.frozen? ⟨b3+1,3,none⟩=false:=zB 3 hT.b5
 obtain ⟨q0,q1,q2,q3⟩:=cq4 hT.bq
 have hne:¬ r=b3:=fun e=>hT.ne (by rw[e])
 have hne2:¬ b3=r:=fun e=>hT.ne (by rw[e])
 have HT:=hJ hT
 clear hT hcut
 go_wp2_with fail
 go_region_held3 (fun w'=>w'.cell? ⟨r+1,0,none⟩=some (.int .i64 0)∧w'.cell? ⟨r+1,1,none⟩=some (.int .i64 t.kind)∧w'.cell? ⟨r+1,2,none⟩=some (.float .f64 t.num)∧w'.cell? ⟨r+1,3,none⟩=some (.string t.text)) (go_keep) (fail)
 all_goals
  go_wp2_with fail
  refine bodyPost_ret (v:=.tuple #[u0,.agg #[.int .i64 0,.int .i64 t.kind,.float .f64 t.num,.string t.text]]) (by simp[results,Tryz.results279,go_sem,g0,g1,g2,g3]) rfl ?_
  have hm:∀ {a b c d},Mod (fun k=>k=b3+1) wc (((((wc.setCell ⟨b3+1,0,none⟩ a).setCell ⟨b3+1,1,none⟩ b).setCell ⟨b3+1,2,none⟩ c).setCell ⟨b3+1,3,none⟩ d).drew):=fun {_ _ _ _}=>(zM (zM (zM (zM (Mod.refl _ wc) _ _) _ _) _ _) _ _).drew
  refine ⟨HT.out.mod.trans hm (fun k hk e=>by omega),hgood.out _ _ ⟨HT.out.own.mod hm (fun g hg e=>(HT.out.far g hg).2 e),fun g hg=>(HT.out.far g hg).1⟩⟩
end Go.Proofs.YtjbkjhhjofeldaaGreat
