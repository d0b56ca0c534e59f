/-
 Contracts of the page's Pairs and Get. Conditions: as each theorem names them.
-/
import Derived.Test.YtjbkjhhjofeldaaGreatG33
import Derived.Deep.DeepCutAuto
import Derived.Deep.CutBlock
import Derived.Deep.RegionHeld3
import Derived.StillTailTactics
import Derived.Test.YtjbkjhhjofeldaaGreatH1
namespace Go.Proofs.YtjbkjhhjofeldaaGreat
set_option linter.unusedSimpArgs false
open Go.RowKit
def ziY (w:World) (l:List zJ) (r:yH) (e:Ending) (w':World):Prop:=
 ∃ v',e=.returned (.tuple #[v',.agg #[.int .i64 r.code,.int .i64 r.val.kind,.float .f64 r.val.num,.string r.val.text]])∧zg7 w w' v' l∧Ext w w'
theorem xV {W w1 w2:World} {S:Nat→Prop} {v:Value} {l:List zJ} (h:zg7 W w1 v l) (hm:Mod S w1 w2) (hd:∀ g,v.ownBlock=some g→¬ S g):zg7 W w2 v l:=
 ⟨zN h.1 hm hd,h.2.1,h.2.2⟩
theorem zaQ {W w0 w1:World} {v:Value} {l:List zJ} (h:zg7 w0 w1 v l) (hs:W.heap.size≤w0.heap.size):zg7 W w1 v l:=
 ⟨h.1,h.2.1,fun g hg=>Nat.le_trans hs (h.2.2 g hg)⟩
theorem xY (w:World) (o p:Obj):((w.alloc o).alloc p).heap[w.heap.size]? = some o∧((w.alloc o).alloc p).heap[w.heap.size+1]? = some p∧((w.alloc o).alloc p).heap.size=w.heap.size+2:=by
 refine ⟨?_,?_,by simp⟩
 · rw[Below.heap_alloc _ _ _ (by simp)];exact heap_alloc_new w _
 have:=heap_alloc_new (w.alloc o) p;simpa using this
set_option maxRecDepth 100000
set_option maxHeartbeats 2000000
theorem r_last (w:World) (T:Nat→Prop) (pv v:Value) (l:List zR) (key:Int) (h:Ses w T v l):
  Calls Tryz.prog 49 #[.agg #[pv,v],.int .i64 key] w fun e w'=>e=.returned (.tuple #[.int .i64 (yJ l key).1,.agg #[.int .i64 (yJ l key).2.code,.int .i64 (yJ l key).2.val.kind,.float .f64 (yJ l key).2.val.num,.string (yJ l key).2.val.text]])∧Ext w w':=by
 obtain ⟨n,hn⟩:∃ n,l.length=n:=⟨_,rfl⟩
 obtain ⟨A,c,rfl⟩:=h.form
 have hl:=h.1.le
 unfold maxLen at hl
 rw[hn] at h hl ⊢
 have Hn:=hJ hn
 clear hn
 obtain ⟨r,hr⟩:∃ r,yJ l key=r:=⟨_,rfl⟩
 rw[hr]
 have Hr:=hJ hr
 clear hr
 obtain ⟨b,hb⟩:∃ b,w.heap.size=b:=⟨_,rfl⟩
 obtain ⟨W,hW⟩:∃ W,W=(w.alloc (.cells #[pv,.slice A n c] 41)).alloc (.cells #[.int .i64 0,.int .i64 0,.float .f64 0,.string ⟨#[]⟩] 48):=⟨_,rfl⟩
 obtain ⟨hA,hB,hsz⟩:=xY w (.cells #[pv,.slice A n c] 41) (.cells #[.int .i64 0,.int .i64 0,.float .f64 0,.string ⟨#[]⟩] 48)
 rw[←hW,hb] at hA hB hsz
 have hE:Ext w W:=by rw[hW];exact ((Mod.refl _ w).alloc _).alloc _
 have h2:=h.ext hE
 have m1:W.cell? ⟨b,1,none⟩=some (.slice A n c):=zA (cs:=[pv,.slice A n c]) hA rfl
 obtain ⟨HA,HB,HW,HEw,Hb,Hlo⟩:=hJ6 hA hB hW hE hb h
 clear hA hB hW hE h hb
 go_enter Tryz.func49,Tryz.ntmps49
 go_wp2_with fail
 rw[←HW.out,Hb.out]
 go_loop [6] (fun iv=>∃ i:Nat,i≤n∧iv=.int .i64 i∧yJ (l.drop i) key=r) (fun iv=>n-(intOf iv).toNat)
 case atStart=>exact ⟨0,by omega,rfl,by simpa using Hr.out⟩
 obtain ⟨i,hin,rfl,hg⟩:=hrel
 have Hg:=hJ hg
 clear hg
 by_cases hi:i<n
 ·
  obtain ⟨g,off,x,rfl,hgT,hx,hxok,hcells⟩:=h2.at hi
  have hi0:(0:Int)≤(i:Int):=by omega
  have hi1:(i:Int)<(n:Int):=by omega
  have x0:=hcells 0 _ rfl
  have x1:=hcells 1 _ rfl
  have x2:=hcells 2 _ rfl
  have x3:=hcells 3 _ rfl
  have x4:=hcells 4 _ rfl
  have x5:=hcells 5 _ rfl
  rw[Nat.add_zero] at x0
  have hd:=zhR key hx
  obtain ⟨Hd,H2⟩:=hJ2 hd h2
  clear hcells hx hxok hd h2
  by_cases hk:x.client=key
  ·
   have e:(x.seq,x.reply)=r:=by have:=Hd.out;rw[if_pos hk,Hg.out] at this;exact this.symm
   have He:=hJ e
   clear e
   have hk2:(x.client==key)=true:=by simp[hk]
   clear hk
   have hlo:=Hlo.out.low (by omega)
   rw[Hb.out] at hlo
   have hne:¬ g=b+1:=by omega
   have hne2:¬ b+1=g:=by omega
   clear hlo
   obtain ⟨g0,g1,g2,g3⟩:=cq4 HB.out
   have f0:W.frozen? ⟨b+1,0,none⟩=false:=zB 0 HB.out
   have f1:W.frozen? ⟨b+1,1,none⟩=false:=zB 1 HB.out
   have f2:W.frozen? ⟨b+1,2,none⟩=false:=zB 2 HB.out
   have f3:W.frozen? ⟨b+1,3,none⟩=false:=zB 3 HB.out
   go_wp2_with fail
   go_region_held3 (fun w'=>w'.cell? ⟨b,1,none⟩=some (.slice (some ⟨g,off,none⟩) n c)∧w'.cell? ⟨g,off+i*6+1,none⟩=some (.int .i64 x.seq)∧w'.cell? ⟨g,off+i*6+2,none⟩=some (.int .i64 x.reply.code)∧w'.cell? ⟨g,off+i*6+3,none⟩=some (.int .i64 x.reply.val.kind)∧w'.cell? ⟨g,off+i*6+4,none⟩=some (.float .f64 x.reply.val.num)∧w'.cell? ⟨g,off+i*6+5,none⟩=some (.string x.reply.val.text)) (go_keep) (fail)
   all_goals
    go_wp2_with fail
    have hm:Mod (fun k=>k=b+1) W ((((W.setCell ⟨b+1,0,none⟩ (.int .i64 x.reply.code)).setCell ⟨b+1,1,none⟩ (.int .i64 x.reply.val.kind)).setCell ⟨b+1,2,none⟩ (.float .f64 x.reply.val.num)).setCell ⟨b+1,3,none⟩ (.string x.reply.val.text)):=zM (zM (zM (zM (Mod.refl _ W) _ _) _ _) _ _) _ _
    refine bodyPost_ret (v:=.tuple #[.int .i64 x.seq,.agg #[(.int .i64 x.reply.code),(.int .i64 x.reply.val.kind),(.float .f64 x.reply.val.num),(.string x.reply.val.text)]]) (by simp[results,Tryz.results49,go_sem,g0,g1,g2,g3]) rfl ⟨by rw[←He.out];first|done|rfl,?_⟩
    exact Mod.toExt ((Ext.mod (HEw.out) (zD w.heap.size)).trans hm.drew (fun k _ e=>by have:=Hb.out;unfold zD;omega))
  have Hn2:Hid (yJ (l.drop (i+1)) key=r):=hJ (by have:=Hd.out;rw[if_neg hk,Hg.out] at this;exact this.symm)
  have hk2:(x.client==key)=false:=by simp[hk]
  clear hk
  go_wp2
  exact ⟨⟨i+1,by omega,by go_num,Hn2.out⟩,by simp[intOf];omega⟩
 have e:((0:Int),yH.zero)=r:=by
  have:=Hg.out
  rw[List.drop_eq_nil_of_le (by rw[Hn.out];omega)] at this
  exact this
 have He:=hJ e
 clear e
 obtain ⟨g0,g1,g2,g3⟩:=cq4 HB.out
 have f0:W.frozen? ⟨b+1,0,none⟩=false:=zB 0 HB.out
 have f1:W.frozen? ⟨b+1,1,none⟩=false:=zB 1 HB.out
 have f2:W.frozen? ⟨b+1,2,none⟩=false:=zB 2 HB.out
 have f3:W.frozen? ⟨b+1,3,none⟩=false:=zB 3 HB.out
 go_wp2
 have hm:Mod (fun k=>k=b+1) W ((((W.setCell ⟨b+1,0,none⟩ (.int .i64 0)).setCell ⟨b+1,1,none⟩ (.int .i64 0)).setCell ⟨b+1,2,none⟩ (.float .f64 0)).setCell ⟨b+1,3,none⟩ (.string ⟨#[]⟩)):=zM (zM (zM (zM (Mod.refl _ W) _ _) _ _) _ _) _ _
 refine bodyPost_ret (v:=.tuple #[.int .i64 0,.agg #[(.int .i64 0),(.int .i64 0),(.float .f64 0),(.string ⟨#[]⟩)]]) (by simp[results,Tryz.results49,go_sem,g0,g1,g2,g3]) rfl ⟨by rw[←He.out];first|done|rfl,?_⟩
 exact Mod.toExt ((Ext.mod (HEw.out) (zD w.heap.size)).trans hm (fun k _ e=>by have:=Hb.out;unfold zD;omega))
theorem zj5 (w:World) (T:Nat→Prop) (pv v:Value) (l:List zR) (key:Int) (h:Ses w T v l):
  Calls Tryz.prog 46 #[.agg #[pv,v],.int .i64 key] w fun e w'=>e=.returned (.tuple #[.int .i64 (yJ l key).1,.agg #[.int .i64 (yJ l key).2.code,.int .i64 (yJ l key).2.val.kind,.float .f64 (yJ l key).2.val.num,.string (yJ l key).2.val.text]])∧Ext w w':=by
 obtain ⟨n,hn⟩:∃ n,l.length=n:=⟨_,rfl⟩
 obtain ⟨A,c,rfl⟩:=h.form
 have hl:=h.1.le
 unfold maxLen at hl
 rw[hn] at h hl ⊢
 have Hn:=hJ hn
 clear hn
 obtain ⟨r,hr⟩:∃ r,yJ l key=r:=⟨_,rfl⟩
 rw[hr]
 have Hr:=hJ hr
 clear hr
 obtain ⟨b,hb⟩:∃ b,w.heap.size=b:=⟨_,rfl⟩
 obtain ⟨W,hW⟩:∃ W,W=(w.alloc (.cells #[pv,.slice A n c] 41)).alloc (.cells #[.int .i64 0,.int .i64 0,.float .f64 0,.string ⟨#[]⟩] 48):=⟨_,rfl⟩
 obtain ⟨hA,hB,hsz⟩:=xY w (.cells #[pv,.slice A n c] 41) (.cells #[.int .i64 0,.int .i64 0,.float .f64 0,.string ⟨#[]⟩] 48)
 rw[←hW,hb] at hA hB hsz
 have hE:Ext w W:=by rw[hW];exact ((Mod.refl _ w).alloc _).alloc _
 have h2:=h.ext hE
 have m1:W.cell? ⟨b,1,none⟩=some (.slice A n c):=zA (cs:=[pv,.slice A n c]) hA rfl
 obtain ⟨HA,HB,HW,HEw,Hb,Hlo⟩:=hJ6 hA hB hW hE hb h
 clear hA hB hW hE h hb
 go_enter Tryz.func46,Tryz.ntmps46
 go_wp2_with fail
 rw[←HW.out,Hb.out]
 go_loopw [11] (fun iv wr=>∃ i:Nat,i≤n∧iv=.int .i64 i∧Ext W wr∧yJ (l.drop i) key=r) (fun iv _=>n-(intOf iv).toNat)
 case atStart=>exact ⟨0,by omega,rfl,Mod.refl _ W,by simpa using Hr.out⟩
 obtain ⟨i,hin,rfl,hE,hg⟩:=hrel
 have Hg:=hJ hg
 have h3:=h2.ext hE
 have hsw:Hid (b+2≤wr.heap.size):=hJ (by rw[←hsz];exact hE.size)
 clear hg
 by_cases hi:i<n
 ·
  obtain ⟨g,off,x,rfl,hgT,hx,hxok,hcells⟩:=h3.at hi
  have hi0:(0:Int)≤(i:Int):=by omega
  have hi1:(i:Int)<(n:Int):=by omega
  have x0:=hcells 0 _ rfl
  have x1:=hcells 1 _ rfl
  have x2:=hcells 2 _ rfl
  have x3:=hcells 3 _ rfl
  have x4:=hcells 4 _ rfl
  have x5:=hcells 5 _ rfl
  rw[Nat.add_zero] at x0
  have hd:=zhR key hx
  obtain ⟨Hd,H2⟩:=hJ2 hd h2
  clear hcells hx hxok hd h2 h3
  obtain ⟨V,hV⟩:∃ V,V=wr.alloc (.cells #[.int .i64 x.client,.int .i64 x.seq,.int .i64 x.reply.code,.int .i64 x.reply.val.kind,.float .f64 x.reply.val.num,.string x.reply.val.text] 125):=⟨_,rfl⟩
  have hEV:Ext wr V:=by rw[hV];exact (Mod.refl _ wr).alloc _
  have hF:Ext W V:=Mod.ext hE hEV
  have hcs:∀ j u,x.cells[j]? = some u→V.cell? ⟨wr.heap.size,j,none⟩=some u:=by
   intro j u hu
   rw[hV,cell_of_row _ _ _ _ _ _ (heap_alloc_new wr _)]
   simpa using hu
  have y0:=hcs 0 _ rfl
  have y1:=hcs 1 _ rfl
  have y2:=hcs 2 _ rfl
  have y3:=hcs 3 _ rfl
  have y4:=hcs 4 _ rfl
  have y5:=hcs 5 _ rfl
  obtain ⟨HV,HF⟩:=hJ2 hV hF
  have HBV:Hid (V.heap[b+1]? = some (.cells #[.int .i64 0,.int .i64 0,.float .f64 0,.string ⟨#[]⟩] 48 (0,0))):=hJ (hF.blk HB.out id)
  clear hV hcs hEV hF
  by_cases hk:x.client=key
  ·
   have e:(x.seq,x.reply)=r:=by have:=Hd.out;rw[if_pos hk,Hg.out] at this;exact this.symm
   have He:=hJ e
   clear e
   have hk2:(x.client==key)=true:=by simp[hk]
   clear hk
   go_wp2_with fail
   rw[←HV.out]
   clear x0 x1 x2 x3 x4 x5
   have hlo:b+2≤wr.heap.size:=hsw.out
   have hne:¬ wr.heap.size=b+1:=by omega
   have hne2:¬ b+1=wr.heap.size:=by omega
   clear hlo
   obtain ⟨g0,g1,g2,g3⟩:=cq4 HBV.out
   have f0:V.frozen? ⟨b+1,0,none⟩=false:=zB 0 HBV.out
   have f1:V.frozen? ⟨b+1,1,none⟩=false:=zB 1 HBV.out
   have f2:V.frozen? ⟨b+1,2,none⟩=false:=zB 2 HBV.out
   have f3:V.frozen? ⟨b+1,3,none⟩=false:=zB 3 HBV.out
   go_wp2_with fail
   go_region_held3 (fun w'=>w'.cell? ⟨wr.heap.size,1,none⟩=some (.int .i64 x.seq)∧w'.cell? ⟨wr.heap.size,2,none⟩=some (.int .i64 x.reply.code)∧w'.cell? ⟨wr.heap.size,3,none⟩=some (.int .i64 x.reply.val.kind)∧w'.cell? ⟨wr.heap.size,4,none⟩=some (.float .f64 x.reply.val.num)∧w'.cell? ⟨wr.heap.size,5,none⟩=some (.string x.reply.val.text)) (go_keep) (fail)
   all_goals
    go_wp2_with fail
    have hm:Mod (fun k=>k=b+1) V ((((V.setCell ⟨b+1,0,none⟩ (.int .i64 x.reply.code)).setCell ⟨b+1,1,none⟩ (.int .i64 x.reply.val.kind)).setCell ⟨b+1,2,none⟩ (.float .f64 x.reply.val.num)).setCell ⟨b+1,3,none⟩ (.string x.reply.val.text)):=zM (zM (zM (zM (Mod.refl _ V) _ _) _ _) _ _) _ _
    refine bodyPost_ret (v:=.tuple #[.int .i64 x.seq,.agg #[(.int .i64 x.reply.code),(.int .i64 x.reply.val.kind),(.float .f64 x.reply.val.num),(.string x.reply.val.text)]]) (by simp[results,Tryz.results46,go_sem,g0,g1,g2,g3]) rfl ⟨by rw[←He.out];first|done|rfl,?_⟩
    exact Mod.toExt ((Ext.mod (Mod.ext HEw.out HF.out) (zD w.heap.size)).trans hm.drew (fun k _ e=>by have:=Hb.out;unfold zD;omega))
  have Hn2:Hid (yJ (l.drop (i+1)) key=r):=hJ (by have:=Hd.out;rw[if_neg hk,Hg.out] at this;exact this.symm)
  have hk2:(x.client==key)=false:=by simp[hk]
  clear hk
  go_wp2
  rw[←HV.out]
  exact ⟨⟨i+1,by omega,by go_num,HF.out,Hn2.out⟩,by simp[intOf];omega⟩
 have e:((0:Int),yH.zero)=r:=by
  have:=Hg.out
  rw[List.drop_eq_nil_of_le (by rw[Hn.out];omega)] at this
  exact this
 obtain ⟨He,HF⟩:=hJ2 e hE
 have HBV:Hid (wr.heap[b+1]? = some (.cells #[.int .i64 0,.int .i64 0,.float .f64 0,.string ⟨#[]⟩] 48 (0,0))):=hJ (hE.blk HB.out id)
 clear e hE
 obtain ⟨g0,g1,g2,g3⟩:=cq4 HBV.out
 have f0:wr.frozen? ⟨b+1,0,none⟩=false:=zB 0 HBV.out
 have f1:wr.frozen? ⟨b+1,1,none⟩=false:=zB 1 HBV.out
 have f2:wr.frozen? ⟨b+1,2,none⟩=false:=zB 2 HBV.out
 have f3:wr.frozen? ⟨b+1,3,none⟩=false:=zB 3 HBV.out
 go_wp2
 have hm:Mod (fun k=>k=b+1) wr ((((wr.setCell ⟨b+1,0,none⟩ (.int .i64 0)).setCell ⟨b+1,1,none⟩ (.int .i64 0)).setCell ⟨b+1,2,none⟩ (.float .f64 0)).setCell ⟨b+1,3,none⟩ (.string ⟨#[]⟩)):=zM (zM (zM (zM (Mod.refl _ wr) _ _) _ _) _ _) _ _
 refine bodyPost_ret (v:=.tuple #[.int .i64 0,.agg #[(.int .i64 0),(.int .i64 0),(.float .f64 0),(.string ⟨#[]⟩)]]) (by simp[results,Tryz.results46,go_sem,g0,g1,g2,g3]) rfl ⟨by rw[←He.out];first|done|rfl,?_⟩
 exact Mod.toExt ((Ext.mod (Mod.ext HEw.out HF.out) (zD w.heap.size)).trans hm (fun k _ e=>by have:=Hb.out;unfold zD;omega))
set_option maxHeartbeats 400000
theorem zj6 (w:World) (T:Nat→Prop) (v:Value) (l:List zR) (h:Ses w T v l) (hl:l.length≤1000000):
  Calls Tryz.prog 51 #[v] w fun e w'=>∃ v',e=.returned v'∧zj0 w w' v' l∧Ext w w':=by
 obtain ⟨i0,hi,hz0,hz1,hz2⟩:=info_parts zgN
 obtain ⟨n,hn⟩:∃ n,l.length=n:=⟨_,rfl⟩
 obtain ⟨A,c,rfl⟩:=h.form
 obtain ⟨h1,h2⟩:=h
 rw[hn] at hl h1 ⊢
 obtain ⟨Hn,H2⟩:=hJ2 hn h2
 clear hn h2
 have heq:=fun (w:World) (a:Option Addr) (n c n' c':Nat)=>Lib.run_eql_slice_nil (P:=Tryz.prog) w 39 125 a n c n' c' Tryz.underlying39
 rcases A with _|A
 ·
  have hn0:n=0:=by
   rcases Nat.eq_zero_or_pos n with h0|h0
   · exact h0
   obtain ⟨_,A',c',e,_,_,hx⟩:=h1
   injection e with e1 _ _
   obtain ⟨g,off,hA,_⟩:=hx h0
   rw[←e1] at hA;cases hA
  have hl0:l=[]:=List.eq_nil_of_length_eq_zero (by rw[Hn.out];exact hn0)
  subst hl0
  clear h1
  go_enter Tryz.func51,Tryz.ntmps51
  go_wp2
  go_ret
  exact ⟨_,rfl,⟨World.ownsRow_nil _ _ _ _,by simp,by simp[Value.ownBlock]⟩,Mod.refl _ w⟩
 have hEa:Ext w (w.alloc (.cells #[] 125)):=(Mod.refl _ w).alloc _
 have h3:=h1.ext hEa
 have hown:(w.alloc (.cells #[] 125)).ownsRow 0 125 6 (.slice (some ⟨w.heap.size,0,none⟩) 0 0) 0 []:=World.ownsRow_made w #[] 0 (Nat.zero_le _) (by simp[maxLen]) rfl
 go_enter Tryz.func51,Tryz.ntmps51
 go_wp2_with (at_builtin;refine xB _ rfl _ _ 39 rfl 125 i0 _ 6 56 Tryz.underlying39 hi hz0 hz1 hz2 rfl (by omega) _ 0 [] rfl hown T _ n (l.flatMap zR.cells) rfl h3 (zk1 l) (by simp only[maxLen];omega) (by omega) ?_)
 intro v' w1 ho hgr hat
 have hM:Mod (zD w.heap.size) w w1:=(((Mod.refl (zD w.heap.size) w).alloc _).grown hgr (fun k hk=>by
  simp[Value.ownBlock] at hk;subst hk;exact .inl (Nat.le_refl _)))
 have hN:zj0 w w1 v' l:=by
  refine ⟨by rw[Hn.out];simpa using ho,H2.out,fun g hgg=>?_⟩
  rcases hat with e|e <;> rw[e] at hgg <;> simp[Value.ownBlock] at hgg <;> omega
 go_wp2
 go_ret
 exact ⟨v',rfl,hN,hM.toExt⟩
def zn5 (w w':World) (pv v:Value) (m:jK):Prop:=zg7 w w' pv m.pairs∧zj0 w w' v m.sess∧∀ g,pv.ownBlock=some g→v.ownBlock≠some g
theorem zaX {W w1 w2:World} {S:Nat→Prop} {v:Value} {l:List zR} (h:zj0 W w1 v l) (hm:Mod S w1 w2) (hd:∀ g,v.ownBlock=some g→¬ S g):zj0 W w2 v l:=
 ⟨zN h.1 hm hd,h.2.1,h.2.2⟩
theorem yI {W w1 w2:World} {S:Nat→Prop} {pv v:Value} {m:jK} (h:zn5 W w1 pv v m) (hm:Mod S w1 w2) (hd:∀ g,pv.ownBlock=some g→¬ S g) (hd2:∀ g,v.ownBlock=some g→¬ S g):zn5 W w2 pv v m:=
 ⟨xV h.1 hm hd,zaX h.2.1 hm hd2,h.2.2⟩
set_option maxHeartbeats 2000000
theorem zhV (w:World) (T U:Nat→Prop) (pv v:Value) (p:List zJ) (l:List zR) (hP:Prs w U pv p) (h:Ses w T v l) (hp:p.length≤1000000) (hl:l.length≤1000000):
  Calls Tryz.prog 271 #[.agg #[pv,v]] w fun e w'=>∃ pv' v',e=.returned (.agg #[pv',v'])∧zn5 w w' pv' v' ⟨p,l⟩∧Ext w w':=by
 obtain ⟨A,c,rfl⟩:=h.form
 obtain ⟨A',c',rfl⟩:=hP.form
 obtain ⟨b,hb⟩:∃ b,w.heap.size=b:=⟨_,rfl⟩
 obtain ⟨W,hW⟩:∃ W,W=(w.alloc (.cells #[.slice A' p.length c',.slice A l.length c] 41)).alloc (.cells #[.slice none 0 0,.slice none 0 0] 41):=⟨_,rfl⟩
 obtain ⟨hA,hB,hsz⟩:=xY w (.cells #[.slice A' p.length c',.slice A l.length c] 41) (.cells #[.slice none 0 0,.slice none 0 0] 41)
 rw[←hW,hb] at hA hB hsz
 have hE:Ext w W:=by rw[hW];exact ((Mod.refl _ w).alloc _).alloc _
 have a0:W.cell? ⟨b,0,none⟩=some _:=zA (cs:=[.slice A' p.length c',.slice A l.length c]) hA rfl
 have a1:W.cell? ⟨b,1,none⟩=some _:=zA (cs:=[.slice A' p.length c',.slice A l.length c]) hA rfl
 have hup:∀ {W'},Mod (fun k=>k=b+1) W W'→Ext w W':=fun {W'} hm=>Mod.toExt ((Ext.mod hE (zD w.heap.size)).trans hm (fun k _ e=>by unfold zD;omega))
 obtain ⟨HW,HB,Hb⟩:=hJ3 hW hB hb
 clear hA hB hW hb
 go_enter Tryz.func271,Tryz.ntmps271
 go_wp2_with fail
 rw[←HW.out,Hb.out]
 refine wp_region_held_drew (S:=fun W'=>Mod (fun k=>k=b+1) W W'∧∃ x y,W'.heap[b+1]? = some (.cells #[x,y] 41 (0,0))) (by kernel_rfl) ⟨(Mod.refl _ W).drew,_,_,HB.out⟩ (fun hS=>?_)
 iterate 4
  first|refine tkI 0 (some 3) rfl rfl ?_ hS ?_ ?_|refine tkI 1 (some 4) rfl rfl ?_ hS ?_ ?_|refine tkI 3 (some 6) rfl rfl ?_ hS ?_ ?_|refine tkI 4 (some 7) rfl rfl ?_ hS ?_ ?_
  rotate_left
  · rintro W' ⟨hm',x,y,hB'⟩
    have q0:=hm'.cell a0 (show ¬ b=b+1 by omega)
    have q1:=hm'.cell a1 (show ¬ b=b+1 by omega)
    go_simp
    try rfl
  try simp only[pL]
 refine zaJ 2 rfl (fun K hK=>?_)
 go_simp
 go_wp2_with fail
 refine (zeK _ U _ p (hP.ext (hup hS.1)) hp).mono ?_
 rintro e w1 ⟨v1,rfl,hN1,hE1⟩
 obtain ⟨A1,c1,rfl⟩:=zC hN1.1
 have hSw1:=hS
 obtain ⟨x,y,hB'⟩:=hS.2
 have hX:=(⟨hS.1.trans hE1 (fun _ _ h=>h.elim),x,y,hE1.blk hB' id⟩:Mod (fun k=>k=b+1) W w1∧∃ x y,w1.heap[b+1]? = some (.cells #[x,y] 41 (0,0)))
 clear hB' hS
 go_simp
 refine hK.out _ _ hX (fun hS=>?_)
 clear hK K hX
 refine zaJ 5 rfl (fun K hK=>?_)
 go_simp
 go_wp2_with fail
 refine (zj6 _ T _ l (h.ext (hup hS.1)) hl).mono ?_
 rintro e w2 ⟨v2,rfl,hN2,hE2⟩
 obtain ⟨A2,c2,rfl⟩:=zC hN2.1
 have hSw2:=hS
 obtain ⟨x,y,hB'⟩:=hS.2
 have hX:=(⟨hS.1.trans hE2 (fun _ _ h=>h.elim),x,y,hE2.blk hB' id⟩:Mod (fun k=>k=b+1) W w2∧∃ x y,w2.heap[b+1]? = some (.cells #[x,y] 41 (0,0)))
 clear hB' hS
 go_simp
 refine hK.out _ _ hX (fun hS=>?_)
 clear hK K hX
 refine tkH 6 (some 9) rfl rfl ?_ hS ?_ ?_
 rotate_left
 ·
  rintro W' ⟨hm',x,y,hB'⟩
  have q0:=hm'.cell a0 (show ¬ b=b+1 by omega)
  have q1:=hm'.cell a1 (show ¬ b=b+1 by omega)
  go_simp
  try rfl
 try simp only[pL]
 refine zaJ 7 rfl (fun K hK=>?_)
 obtain ⟨hm2,x,y,hB'⟩:=hS
 have f0:w2.frozen? ⟨b+1,0,none⟩=false:=zB 0 hB'
 have f1:w2.frozen? ⟨b+1,1,none⟩=false:=zB 1 hB'
 have d0:w2.cell? ⟨b+1,0,none⟩=some _:=zA (cs:=[x,y]) hB' rfl
 have d1:w2.cell? ⟨b+1,1,none⟩=some _:=zA (cs:=[x,y]) hB' rfl
 have hX:=(⟨zM (zM hm2 0 (.slice A1 p.length c1)) 1 (.slice A2 l.length c2),.slice A1 p.length c1,.slice A2 l.length c2,by simp[World.setCell,Array.getElem?_modify,hB']⟩:Mod (fun k=>k=b+1) W ((w2.setCell ⟨b+1,0,none⟩ (.slice A1 p.length c1)).setCell ⟨b+1,1,none⟩ (.slice A2 l.length c2))∧∃ x y,((w2.setCell ⟨b+1,0,none⟩ (.slice A1 p.length c1)).setCell ⟨b+1,1,none⟩ (.slice A2 l.length c2)).heap[b+1]? = some (.cells #[x,y] 41 (0,0)))
 go_simp
 refine hK.out _ _ hX (fun hS=>?_)
 clear hK K hX
 refine wpAnyH_done (by kernel_rfl) ?_ _
 have hm:Mod (fun k=>k=b+1) w2 ((w2.setCell ⟨b+1,0,none⟩ (.slice A1 p.length c1)).setCell ⟨b+1,1,none⟩ (.slice A2 l.length c2)):=zM (zM (Mod.refl _ _) _ _) _ _
 go_wp2_with fail
 refine bodyPost_ret (v:=.agg #[.slice A1 p.length c1,.slice A2 l.length c2]) (by simp[results,Tryz.results271,go_sem,d0,d1]) rfl ⟨_,_,rfl,yI (⟨zaQ (xV hN1 hE2 (fun _ _=>id)) (hup hSw1.1).size,⟨hN2.1,hN2.2.1,fun g hg=>Nat.le_trans (hup hSw2.1).size (hN2.2.2 g hg)⟩,fun g hg e=>by have:=(hN1.1.lt g hg).2;have:=hN2.2.2 g e;omega⟩) hm (fun g hg e=>by have:=hN1.2.2 g hg;have:=hSw1.1.size;omega) (fun g hg e=>by have:=hN2.2.2 g hg;have:=hSw2.1.size;omega),hup hS.1⟩
end Go.Proofs.YtjbkjhhjofeldaaGreat
