/-
 The contract of stable.begun (printed by stbx.py). Conditions: as each theorem names them.
-/
import Derived.Test.YtjbkjhhjofeldaaGreatG14
namespace Go.Proofs.YtjbkjhhjofeldaaGreat
set_option linter.unusedSimpArgs false
open Go.RowKit
theorem zh_one:∀ v∈(zH:List Value),v.oneCell'=true:=by
 intro u hu;simp only[List.mem_cons,List.not_mem_nil,or_false] at hu;rcases hu with rfl|rfl|rfl|rfl|rfl|rfl|rfl|rfl|rfl|rfl <;> rfl
theorem zjV {W w:World} {y:zX} {sv lv:Value} (h:zcS W w sv lv y):∀ v∈y.cells sv lv,v.oneCell'=true:=by
 obtain ⟨As,cs,Al,cl,rfl,rfl⟩:=h.forms
 intro u hu;simp only[List.mem_cons,List.not_mem_nil,or_false] at hu;rcases hu with rfl|rfl|rfl|rfl|rfl|rfl|rfl|rfl|rfl|rfl <;> rfl
set_option maxRecDepth 100000
set_option maxHeartbeats 2000000
abbrev jJ (d:Nat) (g:zX) (gs gl:Value):List Value:=.pointer (some ⟨d,0,none⟩) :: g.cells gs gl
theorem StB.ld {w:World} {s d:Nat} {g:zX} {gs gl:Value} (h:StB w s d g gs gl):(Instr.loadAt 61 (.pointer (some ⟨s,1,none⟩))).run Tryz.prog w=.ok (.agg (g.cells gs gl).toArray) w:=
 xH (P:=Tryz.prog) (o:=1) (cs:=g.cells gs gl) yF h rfl (fun j u hu=>by rw[Nat.add_comm];exact hu)
theorem StB.c0 {w:World} {s d:Nat} {g:zX} {gs gl:Value} (h:StB w s d g gs gl):w.cell? ⟨s,0,none⟩=some (.pointer (some ⟨d,0,none⟩)):=zA (cs:=jJ d g gs gl) h rfl
theorem st_hard (w:World) (T:Nat→Prop) (s d:Nat) (g:zX) (gs gl:Value) (hS:StB w s d g gs gl) (hv:xP w T gs gl g) (hl:g.log.length≤1000000) (hsl:g.snap.length≤1000000):
  Calls Tryz.prog 64 #[.pointer (some ⟨s,0,none⟩)] w fun e w'=>∃ sv lv,e=.returned (.agg (g.cells sv lv).toArray)∧zcS w w' sv lv g∧Ext w w':=by
 obtain ⟨W,hW⟩:∃ W,w.alloc (.cells zH.toArray 61)=W:=⟨_,rfl⟩
 have hE:Ext w W:=by rw[←hW];exact (Mod.refl _ w).alloc _
 have hA:W.heap[w.heap.size]? = some (.cells zH.toArray 61 (0,0)):=by rw[←hW];exact heap_alloc_new w _
 have hld:=StB.ld (hE.blk hS id)
 have hv1:=hv.mod hE (fun _ _=>id)
 obtain ⟨HW,HE,HA,Hv1⟩:=hJ4 hW hE hA hv1
 clear hW hE hA hS hv hv1
 go_enter Tryz.func64,Tryz.ntmps64
 go_wp2_with (rw[HW.out];refine yT rfl 61 _ rfl _ _ rfl hld ?_)
 clear hld
 refine (zkS W T g gs gl Hv1.out hl hsl).mono ?_
 rintro e w1 ⟨sv,lv,rfl,hN1,hE1⟩
 have HA1:=hJ (hE1.blk HA.out id)
 have HE1:=hJ (HE.out.ext hE1)
 have HN1:=hJ (hN1.up HE.out)
 have hone:=zjV hN1
 clear hN1 hE1
 go_wp2_with (refine qH rfl 61 _ _ rfl 10 w.heap.size 0 (g.cells sv lv) rfl rfl yF _ zH (g.cells sv lv) HA1.out rfl (by simp) hone rfl ?_)
 intro w5 hb5 hm5 hs5
 have HE5:=hJ (HE1.out.trans hm5 (fun k hk e=>by omega))
 have HN5:=hJ (HN1.out.box HA1.out hm5 (by decide) (by decide))
 clear hm5 hs5
 go_wp2_with fail
 exact bodyPost_ret (v:=.agg (g.cells sv lv).toArray) (results_cell_row rfl _ _ _ _ _ (0,0) _ rfl hb5 Tryz.underlying61 rfl (by kernel_rfl)) rfl ⟨_,_,rfl,HN5.out,HE5.out⟩
def OpenO (w:World) (d:Nat) (fv:Value) (R:zU×Option zX×Int) (e:Ending) (w':World):Prop:=∃ fv',Dsk w' d fv' R.1∧Mod (fun k=>k=d∨fv.ownBlock=some k) w w'∧(∀ g,fv'.ownBlock=some g→fv.ownBlock=some g∨w.heap.size≤g) ∧
 match R.2.1 with
 | none=>e=.returned (.tuple #[.pointer none,.int .i64 R.2.2])∧R.2.2≠0
 | some g=>∃ s gs gl,e=.returned (.tuple #[.pointer (some ⟨s,0,none⟩),.int .i64 R.2.2])∧R.2.2=0∧StB w' s d g gs gl∧zcS w w' gs gl g∧(∀ k,gs.ownBlock=some k→fv'.ownBlock≠some k)∧w.heap.size≤s
theorem za0 {w:World} {e:TypeId} {k n g:Nat} {v:Value} {xs:List Value} (h:w.ownsRow 0 e k v n xs) (hg:v.ownBlock=some g):g<w.heap.size:=by
 rcases xJ h with ⟨rfl,_⟩|⟨g',cap,cur,rfl,hR,_⟩
 · simp[Value.ownBlock] at hg
 simp[Value.ownBlock] at hg
 subst hg
 exact (Array.getElem?_eq_some_iff.1 hR).1
theorem open_fin {w W4 w5:World} {s d:Nat} {fv gs gl:Value} {D D':zU} {g:zX} {c:Int} (hs:w.heap.size≤s) (hS:StB W4 s d g gs gl) (hN:zcS w W4 gs gl g) (hX:Ext w W4) (hD:Dsk w d fv D) (hM:DM W4 d fv D' w5):
  OpenO w d fv (D',if c=0 then some g else none,c) (.returned (.tuple #[if c=0 then .pointer (some ⟨s,0,none⟩) else .pointer none,.int .i64 c])) w5:=by
 have hdl:=hD.lt
 have hfl:∀ k,fv.ownBlock=some k→k<w.heap.size:=fun k hk=>za0 hD.2.1 hk
 obtain ⟨fv',h1,h2,h3⟩:=DM.trans (Ext.mod hX _) (fun g hg=>.inl hg) hM
 obtain ⟨fv2,k1,k2,k3⟩:=hM
 refine ⟨fv2,k1,(Ext.mod hX _).trans k2 (fun i hi e=>e),fun g hg=>?_,?_⟩
 ·
  rcases k3 g hg with e|e
  · exact .inl e
  exact .inr (Nat.le_trans hX.size e)
 by_cases hc:c=0
 ·
  subst hc
  simp only[if_true]
  refine ⟨s,gs,gl,by simp,by simp,k2.blk hS (fun e=>?_),hN.mod k2 (fun k hk e=>?_) (fun k hk e=>?_),fun k hk e=>?_,hs⟩
  ·
   rcases e with e|e
   · omega
   have:=hfl s e;omega
  ·
   have h4:=hN.1.2 k hk
   rcases e with e|e
   · omega
   have:=hfl k e;omega
  ·
   have h4:=hN.2.2.2 k hk
   rcases e with e|e
   · omega
   have:=hfl k e;omega
  have h4:=hN.1.2 k hk
  have h5:=za0 hN.1.1 hk
  rcases k3 k e with h6|h6
  · have:=hfl k h6;omega
  omega
 simp only[if_neg hc]
 exact ⟨by simp,hc⟩
def OutB (w:World) (bs:List UInt8) (v:Value) (wx:World):Prop:=∃ A n c,v=.slice A n c∧bs.length=n∧zaN w wx (.slice A n c) bs∧Ext w wx
def ComK (w:World) (l m:List zO) (v:Value) (wx:World):Prop:=∃ k:Nat,v=.int .i64 (k:Int)∧ze0 l m=k∧Ext w wx
theorem zpJ {l m:List zO} {k:Nat} {x y:zO} (hx:l[k]? = some x) (hy:m[k]? = some y):ze0 (l.drop k) (m.drop k)=if sameB x y then ze0 (l.drop (k+1)) (m.drop (k+1))+1 else 0:=by
 obtain ⟨h1,h2⟩:=List.getElem?_eq_some_iff.1 hx
 obtain ⟨h3,h4⟩:=List.getElem?_eq_some_iff.1 hy
 rw[List.drop_eq_getElem_cons h1,List.drop_eq_getElem_cons h3,h2,h4,ze0]
theorem zjW {α:Type} {c:α→List Value} {k:Nat} (hc:∀ a,(c a).length=k):∀ (l:List α) (n:Nat),(l.flatMap c).drop (n*k)=(l.drop n).flatMap c
 | [],_=>by simp
 | a :: l,0=>by simp
 | a :: l,n+1=>by
  rw[List.drop_succ_cons,List.flatMap_cons,←zjW hc l n,List.drop_append,hc a,show (n+1)*k-k=n*k by rw[Nat.succ_mul];omega,List.drop_of_length_le (by rw[hc a,Nat.succ_mul];omega),List.nil_append]
theorem ziL:∀ l:List zO,(∀ x∈l,jQ x=true∧x.ok)→((l.map recE).flatMap yP).length≤l.length*400
 | [],_=>by simp
 | x :: l,h=>by
  have h1:=(zc6 (h x (by simp)).1 (h x (by simp)).2).2
  have h2:=ziL l (fun y hy=>h y (by simp[hy]))
  rw[List.map_cons,List.flatMap_cons,List.length_append,jY,List.length_cons,Nat.succ_mul]
  have h3:(recE x).length=1+(zfO x).length:=by unfold recE;rw[List.length_cons,Nat.add_comm]
  omega
theorem st_more (w:World) (T U:Nat→Prop) (s d:Nat) (g h:zX) (gs:Value) (Bl:Option Addr) (gg bl:Nat) (As:Option Addr) (sl cs:Nat) (Al:Option Addr) (ll cl:Nat) (hS:StB w s d g gs (.slice Bl gg bl)) (hg:zoU w T (.slice Bl gg bl) g.log) (hgl:g.log.length=gg) (hv:xP w U (.slice As sl cs) (.slice Al ll cl) h) (hll:h.log.length=ll) (hr:Right h) (hl:ll≤12700) (hgl2:gg≤1000000):
  Calls Tryz.prog 349 #[.pointer (some ⟨s,0,none⟩),.agg #[.int .i64 h.term,.int .i64 h.vote,.int .i64 h.base,.int .i64 h.baseTerm,.int .i64 h.conf.full,.int .i64 h.conf.wit,.int .i64 h.conf.learn,.int .i64 h.conf.learnWit,.slice As sl cs,.slice Al ll cl]] w fun e w'=>∃ v,e=.returned (.tuple #[v,.int .i64 0])∧zaN w w' v (zfJ g h)∧Ext w w':=by
 obtain ⟨W,hW⟩:∃ W,w.alloc (.cells (h.cells (.slice As sl cs) (.slice Al ll cl)).toArray 61)=W:=⟨_,rfl⟩
 have hE:Ext w W:=by rw[←hW];exact (Mod.refl _ w).alloc _
 obtain ⟨b,hb⟩:∃ b,w.heap.size=b:=⟨_,rfl⟩
 have hA:W.heap[b]? = some (.cells (h.cells (.slice As sl cs) (.slice Al ll cl)).toArray 61 (0,0)):=by rw[←hW,←hb];exact heap_alloc_new w _
 have hSW:StB W s d g gs (.slice Bl gg bl):=hE.blk hS id
 have b0:W.cell? ⟨b,0,none⟩=some (.int .i64 h.term):=zA (cs:=(h.cells (.slice As sl cs) (.slice Al ll cl))) hA rfl
 have b1:W.cell? ⟨b,1,none⟩=some (.int .i64 h.vote):=zA (cs:=(h.cells (.slice As sl cs) (.slice Al ll cl))) hA rfl
 have s1:W.cell? ⟨s,1,none⟩=some (.int .i64 g.term):=zA (cs:=(jJ d g gs (.slice Bl gg bl))) hSW rfl
 have s2:W.cell? ⟨s,2,none⟩=some (.int .i64 g.vote):=zA (cs:=(jJ d g gs (.slice Bl gg bl))) hSW rfl
 obtain ⟨HW,HE,Hb,HA,HSW⟩:=hJ5 hW hE hb hA hSW
 have HgW:=hJ (hg.mod hE (fun _ _=>id))
 have HvW:=hJ (hv.mod hE (fun _ _=>id))
 obtain ⟨Hll,Hgl⟩:=hJ2 hll hgl
 have H64:=hJ hr.i64
 clear hW hE hb hA hSW hg hv hll hgl hS
 go_enter Tryz.func349,Tryz.ntmps349
 go_upto_region 2 with fail
 rw[HW.out,Hb.out]
 obtain ⟨tv,htv⟩:∃ tv,(h.term != g.term||h.vote != g.vote)=tv:=⟨_,rfl⟩
 go_cut [29] (fun s29 wx=>s29=.bool tv∧Ext W wx)
 case first=>
  rcases e1:(h.term != g.term) with _|_
  ·
   rcases e2:(h.vote != g.vote) with _|_
   all_goals
    rw[e1,e2] at htv
    have Htv:=hJ htv
    clear htv
    go_quiet (fail)
    go_wp2_with fail
    go_meet
    exact ⟨by rw[←Htv.out];rfl,(Mod.refl _ W).drewN _⟩
  rw[e1] at htv
  have Htv:=hJ htv
  clear htv
  go_quiet (fail)
  go_wp2_with fail
  go_meet
  exact ⟨by rw[←Htv.out];rfl,(Mod.refl _ W).drewN _⟩
 obtain ⟨rfl,hX1⟩:=hcut
 obtain ⟨Htv,HX1⟩:=hJ2 htv hX1
 have d0:=hX1.cell b0 id
 have d1:=hX1.cell b1 id
 clear htv hX1 b0 b1 s1 s2
 go_upto_if 29 with fail
 go_cut [6] (fun s6 wx=>OutB W ((ziG g h).flatMap yP) s6 wx)
 case first=>
  rcases tv with _|_
  ·
   have Hq:Hid ((ziG g h).flatMap yP=[]):=hJ (by
    have h1:=Htv.out
    simp only[Bool.or_eq_false_iff,bne_eq_false_iff_eq] at h1
    unfold ziG;rw[if_pos h1];rfl)
   go_wp2_with fail
   go_meet
   rw[Hq.out]
   exact ⟨none,0,0,rfl,rfl,⟨World.ownsRow_nil _ _ _ _,by simp[Value.ownBlock]⟩,HX1.out⟩
  have Hq:Hid ((ziG g h).flatMap yP=yP (2 :: zY [h.term,h.vote])):=hJ (by
   have h1:=Htv.out
   simp only[Bool.or_eq_true,bne_iff_ne] at h1
   unfold ziG recV
   rw[if_neg (fun e=>by rcases h1 with h1|h1;exact h1 e.1;exact h1 e.2)]
   simp)
  have hEd:=HX1.out
  have hsl:=zf9 wc [h.term,h.vote] 3 #[.int .i64 h.term,.int .i64 h.vote] rfl 2 rfl (by omega)
  have hEa:Ext wc (wc.alloc (.cells #[.int .i64 h.term,.int .i64 h.vote] 3)):=(Mod.refl _ wc).alloc _
  have Hsl:=hJ hsl
  have HEa:=hJ (hEd.ext hEa)
  clear hsl hEa hEd
  go_wp2_with fail
  refine (zhP _ _ _ 2 2 2 2 [h.term,h.vote] rfl Hsl.out rfl (by omega) (by simp;exact ⟨H64.out.1,H64.out.2.1⟩)).mono ?_
  rintro e w2 ⟨v2,rfl,hN2,hE2⟩
  obtain ⟨A2,c2,rfl⟩:=zC hN2.1
  have hb2:Byt w2 (zD W.heap.size) (.slice A2 _ c2) (yP (2 :: zY [h.term,h.vote])):=zaN.sl (w:=W) (hN2.up HEa.out)
  have hfl:(yP (2 :: zY [h.term,h.vote])).length≤100:=by
   rw[jY,List.length_cons]
   have:=yS [h.term,h.vote]
   simp only[List.length_cons,List.length_nil] at this
   omega
  have Hb2:=hJ hb2
  have HE2:=hJ (HEa.out.ext hE2)
  obtain ⟨F,hF⟩:∃ F,yP (2 :: zY [h.term,h.vote])=F:=⟨_,rfl⟩
  rw[hF] at Hb2 hfl Hq ⊢
  obtain ⟨fn,hfn⟩:∃ fn,F.length=fn:=⟨_,rfl⟩
  rw[hfn] at Hb2 ⊢
  obtain ⟨Hfn,Hfl⟩:=hJ2 hfn hfl
  have HN0:Hid (zaN W w2 (.slice none 0 0) []):=hJ ⟨World.ownsRow_nil _ _ _ _,by simp[Value.ownBlock]⟩
  clear hN2 hE2 hb2 hfl hF hfn d0 d1
  go_wp2_with (at_builtin;refine jI rfl _ _ rfl (.slice none 0 0) [] W rfl HN0.out HE2.out _ _ F rfl Hb2.out (by simp only[List.length_nil];have:=Hfl.out;omega) ?_)
  rintro A3 n3 c3 w3 hn3 hN3 hE3 _ _
  obtain ⟨HN3,HE3,Hn3⟩:=hJ3 hN3 hE3 hn3
  clear hN3 hE3 hn3
  go_wp2_with fail
  go_meet
  rw[Hq.out]
  exact ⟨A3,n3,c3,rfl,Hn3.out.symm,by simpa using HN3.out,HE3.out⟩
 clear d0 d1 Htv HX1
 obtain ⟨A6,n6,c6,rfl,hn6,hN6,hX6⟩:=hcut
 obtain ⟨HN6,HX6,Hn6⟩:=hJ3 hN6 hX6 hn6
 clear hN6 hX6 hn6
 go_upto_block 0 with fail
 go_cut [7] from 38 to 70 (fun s7 wx=>ComK wc h.log g.log s7 wx)
 case first=>
  go_wp2_with fail
  go_loopw [7] (fun kv wr=>∃ k:Nat,k≤ll∧k≤gg∧kv=.int .i64 k∧ze0 h.log g.log=k+ze0 (h.log.drop k) (g.log.drop k)∧Ext wc wr) (fun kv _=>ll-(intOf kv).toNat)
  case atStart=>exact ⟨0,by omega,by omega,rfl,by simp,Mod.refl _ _⟩
  obtain ⟨k,hkl,hkg,rfl,hcom,hXr⟩:=hrel
  have HXr:=hJ hXr
  have hXW:Ext W wr:=HX6.out.ext hXr
  have HAr:=hJ (hXW.blk HA.out id)
  have HSr:Hid (StB wr s d g gs (.slice Bl gg bl)):=hJ (hXW.blk HSW.out id)
  have r9:wr.cell? ⟨b,9,none⟩=some (.slice Al ll cl):=zA (cs:=(h.cells (.slice As sl cs) (.slice Al ll cl))) HAr.out rfl
  have r10:wr.cell? ⟨s,10,none⟩=some (.slice Bl gg bl):=zA (cs:=(jJ d g gs (.slice Bl gg bl))) HSr.out rfl
  have hbl:b<wr.heap.size:=(Array.getElem?_eq_some_iff.1 HAr.out).1
  have hsl:s<wr.heap.size:=(Array.getElem?_eq_some_iff.1 HSr.out).1
  obtain ⟨HXW,Hcom⟩:=hJ2 hXW hcom
  clear hXr hXW hcom
  by_cases hk1:k<ll
  rotate_left
  ·
   have d5:decide ((k:Int)<(ll:Int))=false:=decide_eq_false (by omega)
   have hq:ze0 h.log g.log=k:=by rw[Hcom.out,List.drop_of_length_le (by rw[Hll.out];omega)];rfl
   have Hq:=hJ hq
   clear hq
   go_wp2_with fail
   refine wp_region_held_drew (S:=fun W'=>Ext wr W') (by kernel_rfl) (Mod.refl _ wr).drew (fun hS=>?_)
   iterate 31
    first|refine tkJ 0 (some 38) rfl rfl ?_ hS ?_ ?_|refine tkJ 1 (some 39) rfl rfl ?_ hS ?_ ?_|refine tkJ 2 (some 40) rfl rfl ?_ hS ?_ ?_|refine tkJ 3 (some 41) rfl rfl ?_ hS ?_ ?_|refine tkJ 4 (some 42) rfl rfl ?_ hS ?_ ?_|refine tkJ 5 (some 43) rfl rfl ?_ hS ?_ ?_|refine tuI 6 (some 44) rfl rfl hS ?_|refine tuI 7 (some 45) rfl rfl hS ?_|refine tuI 8 (some 46) rfl rfl hS ?_|refine tuI 9 (some 47) rfl rfl hS ?_|refine tuI 10 (some 48) rfl rfl hS ?_|refine tuI 11 (some 49) rfl rfl hS ?_|refine tuI 12 (some 50) rfl rfl hS ?_|refine tuI 13 (some 51) rfl rfl hS ?_|refine tkJ 14 (some 52) rfl rfl ?_ hS ?_ ?_|refine tkJ 15 (some 53) rfl rfl ?_ hS ?_ ?_|refine tuI 16 (some 54) rfl rfl hS ?_|refine tuI 17 (some 55) rfl rfl hS ?_|refine tuI 18 (some 56) rfl rfl hS ?_|refine tuI 19 (some 57) rfl rfl hS ?_|refine tuI 20 (some 58) rfl rfl hS ?_|refine tuI 21 (some 59) rfl rfl hS ?_|refine tuI 22 (some 60) rfl rfl hS ?_|refine tuI 23 (some 61) rfl rfl hS ?_|refine tuI 24 (some 62) rfl rfl hS ?_|refine tuI 25 (some 63) rfl rfl hS ?_|refine tuI 26 (some 64) rfl rfl hS ?_|refine tuI 27 (some 65) rfl rfl hS ?_|refine tuI 28 (some 66) rfl rfl hS ?_|refine tuI 29 (some 67) rfl rfl hS ?_|refine tkJ 30 (some 68) rfl rfl ?_ hS ?_ ?_
    try
     rotate_left
     · rintro W' _ _;go_simp;try rfl
    try simp only[pL]
   refine wpAnyH_done (by kernel_rfl) ?_ _
   go_wp2_with fail
   go_meet
   exact ⟨k,rfl,Hq.out,HXr.out.ext hS⟩
  by_cases hk2:k<gg
  rotate_left
  ·
   have d5:decide ((k:Int)<(ll:Int))=true:=decide_eq_true (by omega)
   have d6:decide ((k:Int)<(gg:Int))=false:=decide_eq_false (by omega)
   have hq:ze0 h.log g.log=k:=by rw[Hcom.out,List.drop_of_length_le (l:=g.log) (by rw[Hgl.out];omega)];cases h.log.drop k <;> rfl
   have Hq:=hJ hq
   clear hq
   go_wp2_with fail
   refine wp_region_held_drew (S:=fun W'=>Ext wr W') (by kernel_rfl) (Mod.refl _ wr).drew (fun hS=>?_)
   iterate 31
    first|refine tkJ 0 (some 38) rfl rfl ?_ hS ?_ ?_|refine tkJ 1 (some 39) rfl rfl ?_ hS ?_ ?_|refine tkJ 2 (some 40) rfl rfl ?_ hS ?_ ?_|refine tkJ 3 (some 41) rfl rfl ?_ hS ?_ ?_|refine tkJ 4 (some 42) rfl rfl ?_ hS ?_ ?_|refine tkJ 5 (some 43) rfl rfl ?_ hS ?_ ?_|refine tkJ 6 (some 44) rfl rfl ?_ hS ?_ ?_|refine tkJ 7 (some 45) rfl rfl ?_ hS ?_ ?_|refine tkJ 8 (some 46) rfl rfl ?_ hS ?_ ?_|refine tkJ 9 (some 47) rfl rfl ?_ hS ?_ ?_|refine tkJ 10 (some 48) rfl rfl ?_ hS ?_ ?_|refine tkJ 11 (some 49) rfl rfl ?_ hS ?_ ?_|refine tkJ 12 (some 50) rfl rfl ?_ hS ?_ ?_|refine tkJ 13 (some 51) rfl rfl ?_ hS ?_ ?_|refine tkJ 14 (some 52) rfl rfl ?_ hS ?_ ?_|refine tkJ 15 (some 53) rfl rfl ?_ hS ?_ ?_|refine tuI 16 (some 54) rfl rfl hS ?_|refine tuI 17 (some 55) rfl rfl hS ?_|refine tuI 18 (some 56) rfl rfl hS ?_|refine tuI 19 (some 57) rfl rfl hS ?_|refine tuI 20 (some 58) rfl rfl hS ?_|refine tuI 21 (some 59) rfl rfl hS ?_|refine tuI 22 (some 60) rfl rfl hS ?_|refine tuI 23 (some 61) rfl rfl hS ?_|refine tuI 24 (some 62) rfl rfl hS ?_|refine tuI 25 (some 63) rfl rfl hS ?_|refine tuI 26 (some 64) rfl rfl hS ?_|refine tuI 27 (some 65) rfl rfl hS ?_|refine tuI 28 (some 66) rfl rfl hS ?_|refine tuI 29 (some 67) rfl rfl hS ?_|refine tkJ 30 (some 68) rfl rfl ?_ hS ?_ ?_
    try
     rotate_left
     · rintro W' _ _;go_simp;try rfl
    try simp only[pL]
   refine wpAnyH_done (by kernel_rfl) ?_ _
   go_wp2_with fail
   go_meet
   exact ⟨k,rfl,Hq.out,HXr.out.ext hS⟩
  have d5:decide ((k:Int)<(ll:Int))=true:=decide_eq_true (by omega)
  have d6:decide ((k:Int)<(gg:Int))=true:=decide_eq_true (by omega)
  obtain ⟨g1,o1,x,rfl,_,hx,hxok,hcx⟩:=(HvW.out.2.mod HXW.out (fun _ _=>id)).at hk1
  obtain ⟨g2,o2,y,rfl,_,hy,hyok,hcy⟩:=(HgW.out.mod HXW.out (fun _ _=>id)).at hk2
  have hcd:=zpJ hx hy
  have k0:(0:Int)≤(k:Int):=by omega
  have k1:(k:Int)<(ll:Int):=by omega
  have k2:(k:Int)<(gg:Int):=by omega
  have Hcd:=hJ hcd
  clear hcd hx hy
  rcases hsm:sameB x y with _|_
  ·
   have hq:ze0 h.log g.log=k:=by rw[Hcom.out,Hcd.out,hsm];rfl
   have Hq:=hJ hq
   clear hq
   go_wp2_with fail
   refine wp_region_held_drew (S:=fun W'=>Ext wr W') (by kernel_rfl) (Mod.refl _ wr).drew (fun hS=>?_)
   iterate 20
    (first|refine tkJ 0 (some 38) rfl rfl ?_ hS ?_ ?_|refine tkJ 1 (some 39) rfl rfl ?_ hS ?_ ?_|refine tkJ 2 (some 40) rfl rfl ?_ hS ?_ ?_|refine tkJ 3 (some 41) rfl rfl ?_ hS ?_ ?_|refine tkJ 4 (some 42) rfl rfl ?_ hS ?_ ?_|refine tkJ 5 (some 43) rfl rfl ?_ hS ?_ ?_|refine tkJ 6 (some 44) rfl rfl ?_ hS ?_ ?_|refine tkJ 7 (some 45) rfl rfl ?_ hS ?_ ?_|refine tkJ 8 (some 46) rfl rfl ?_ hS ?_ ?_|refine tkJ 9 (some 47) rfl rfl ?_ hS ?_ ?_|refine tkJ 10 (some 48) rfl rfl ?_ hS ?_ ?_|refine tkJ 11 (some 49) rfl rfl ?_ hS ?_ ?_|refine tkJ 12 (some 50) rfl rfl ?_ hS ?_ ?_|refine tkJ 13 (some 51) rfl rfl ?_ hS ?_ ?_|refine tkJ 14 (some 52) rfl rfl ?_ hS ?_ ?_|refine tkJ 15 (some 53) rfl rfl ?_ hS ?_ ?_|refine tkJ 16 (some 54) rfl rfl ?_ hS ?_ ?_|refine tkJ 17 (some 55) rfl rfl ?_ hS ?_ ?_|refine tkJ 18 (some 56) rfl rfl ?_ hS ?_ ?_|refine tkJ 19 (some 57) rfl rfl ?_ hS ?_ ?_);rotate_left;· rintro W' _ _;go_simp;try rfl
    try simp only[pL]
   refine tkH 20 (some 58) rfl rfl (.agg x.cells.toArray) hS ?_ ?_
   · rintro W' hW'
     obtain ⟨hbc,hbf⟩:=zaO hW'
     exact zbH _ _ rfl (.pointer (some ⟨g1,o1+k*16,none⟩)) _ rfl (jE yR rfl (fun j u hu=>hW'.cell (hcx j u hu) id))
   try simp only[pL]
   iterate 7
    (first|refine tkJ 21 (some 59) rfl rfl ?_ hS ?_ ?_|refine tkJ 22 (some 60) rfl rfl ?_ hS ?_ ?_|refine tkJ 23 (some 61) rfl rfl ?_ hS ?_ ?_|refine tkJ 24 (some 62) rfl rfl ?_ hS ?_ ?_|refine tkJ 25 (some 63) rfl rfl ?_ hS ?_ ?_|refine tkJ 26 (some 64) rfl rfl ?_ hS ?_ ?_|refine tkJ 27 (some 65) rfl rfl ?_ hS ?_ ?_);rotate_left;· rintro W' _ _;go_simp;try rfl
    try simp only[pL]
   refine tkH 28 (some 66) rfl rfl (.agg y.cells.toArray) hS ?_ ?_
   · rintro W' hW'
     obtain ⟨hbc,hbf⟩:=zaO hW'
     exact zbH _ _ rfl (.pointer (some ⟨g2,o2+k*16,none⟩)) _ rfl (jE yR rfl (fun j u hu=>hW'.cell (hcy j u hu) id))
   try simp only[pL]
   refine zaJ 29 rfl (fun K hK=>?_)
   go_simp
   go_wp2_with fail
   refine (zpA wr.drew x y hxok hyok).mono ?_
   rintro e w7 ⟨rfl,hE7⟩
   have hX:=(hS.ext hE7)
   go_simp
   refine hK.out _ _ hX (fun hS=>?_)
   clear hK K hX
   try simp only[pL]
   refine tkE 30 (some 68) rfl rfl ?_ hS ?_ ?_;rotate_left;· rintro W' _ _;go_simp;try rfl
   try simp only[pL]
   refine wpAnyH_done (by kernel_rfl) ?_ _
   go_wp2_with fail
   go_meet
   exact ⟨k,rfl,Hq.out,HXr.out.ext hS⟩
  have hq:ze0 h.log g.log=(k+1)+ze0 (h.log.drop (k+1)) (g.log.drop (k+1)):=by rw[Hcom.out,Hcd.out,hsm,if_pos rfl];omega
  have Hq:=hJ hq
  clear hq
  have iw:IntKind.i64.wrap ((k:Int)+1)=((k+1:Nat):Int):=by rw[IntWalk.i64_in _ (by omega)];omega
  go_wp2_with fail
  refine wp_region_held_drew (S:=fun W'=>Ext wr W') (by kernel_rfl) (Mod.refl _ wr).drew (fun hS=>?_)
  iterate 20
   (first|refine tkJ 0 (some 38) rfl rfl ?_ hS ?_ ?_|refine tkJ 1 (some 39) rfl rfl ?_ hS ?_ ?_|refine tkJ 2 (some 40) rfl rfl ?_ hS ?_ ?_|refine tkJ 3 (some 41) rfl rfl ?_ hS ?_ ?_|refine tkJ 4 (some 42) rfl rfl ?_ hS ?_ ?_|refine tkJ 5 (some 43) rfl rfl ?_ hS ?_ ?_|refine tkJ 6 (some 44) rfl rfl ?_ hS ?_ ?_|refine tkJ 7 (some 45) rfl rfl ?_ hS ?_ ?_|refine tkJ 8 (some 46) rfl rfl ?_ hS ?_ ?_|refine tkJ 9 (some 47) rfl rfl ?_ hS ?_ ?_|refine tkJ 10 (some 48) rfl rfl ?_ hS ?_ ?_|refine tkJ 11 (some 49) rfl rfl ?_ hS ?_ ?_|refine tkJ 12 (some 50) rfl rfl ?_ hS ?_ ?_|refine tkJ 13 (some 51) rfl rfl ?_ hS ?_ ?_|refine tkJ 14 (some 52) rfl rfl ?_ hS ?_ ?_|refine tkJ 15 (some 53) rfl rfl ?_ hS ?_ ?_|refine tkJ 16 (some 54) rfl rfl ?_ hS ?_ ?_|refine tkJ 17 (some 55) rfl rfl ?_ hS ?_ ?_|refine tkJ 18 (some 56) rfl rfl ?_ hS ?_ ?_|refine tkJ 19 (some 57) rfl rfl ?_ hS ?_ ?_);rotate_left;· rintro W' _ _;go_simp;try rfl
   try simp only[pL]
  refine tkH 20 (some 58) rfl rfl (.agg x.cells.toArray) hS ?_ ?_
  · rintro W' hW'
    obtain ⟨hbc,hbf⟩:=zaO hW'
    exact zbH _ _ rfl (.pointer (some ⟨g1,o1+k*16,none⟩)) _ rfl (jE yR rfl (fun j u hu=>hW'.cell (hcx j u hu) id))
  try simp only[pL]
  iterate 7
   (first|refine tkJ 21 (some 59) rfl rfl ?_ hS ?_ ?_|refine tkJ 22 (some 60) rfl rfl ?_ hS ?_ ?_|refine tkJ 23 (some 61) rfl rfl ?_ hS ?_ ?_|refine tkJ 24 (some 62) rfl rfl ?_ hS ?_ ?_|refine tkJ 25 (some 63) rfl rfl ?_ hS ?_ ?_|refine tkJ 26 (some 64) rfl rfl ?_ hS ?_ ?_|refine tkJ 27 (some 65) rfl rfl ?_ hS ?_ ?_);rotate_left;· rintro W' _ _;go_simp;try rfl
   try simp only[pL]
  refine tkH 28 (some 66) rfl rfl (.agg y.cells.toArray) hS ?_ ?_
  · rintro W' hW'
    obtain ⟨hbc,hbf⟩:=zaO hW'
    exact zbH _ _ rfl (.pointer (some ⟨g2,o2+k*16,none⟩)) _ rfl (jE yR rfl (fun j u hu=>hW'.cell (hcy j u hu) id))
  try simp only[pL]
  refine zaJ 29 rfl (fun K hK=>?_)
  go_simp
  go_wp2_with fail
  refine (zpA wr.drew x y hxok hyok).mono ?_
  rintro e w7 ⟨rfl,hE7⟩
  have hX:=(hS.ext hE7)
  go_simp
  refine hK.out _ _ hX (fun hS=>?_)
  clear hK K hX
  try simp only[pL]
  refine tkE 30 (some 68) rfl rfl ?_ hS ?_ ?_;rotate_left;· rintro W' _ _;go_simp;try rfl
  try simp only[pL]
  refine wpAnyH_done (by kernel_rfl) ?_ _
  go_wp2_with fail
  go_roundw
  case rel=>exact ⟨k+1,by omega,by omega,by go_num,Hq.out,HXr.out.ext hS⟩
  case measure=>simp[intOf];omega
 obtain ⟨k,rfl,hk,hX7⟩:=hcut
 have hcl:=zo4 h.log g.log
 rw[hk,Hll.out,Hgl.out] at hcl
 obtain ⟨hkl,hkg⟩:=hcl
 have HX7:=hJ (HX6.out.ext hX7)
 have HN7:=hJ (HN6.out.ext hX7)
 have Hk:=hJ hk
 clear hk hX7 HX6 HN6
 have HA7:=hJ (HX7.out.blk HA.out id)
 have HS7:Hid (StB wc s d g gs (.slice Bl gg bl)):=hJ (HX7.out.blk HSW.out id)
 have r10:wc.cell? ⟨s,10,none⟩=some (.slice Bl gg bl):=zA (cs:=(jJ d g gs (.slice Bl gg bl))) HS7.out rfl
 have r2:wc.cell? ⟨b,2,none⟩=some (.int .i64 h.base):=zA (cs:=(h.cells (.slice As sl cs) (.slice Al ll cl))) HA7.out rfl
 obtain ⟨X,hX⟩:∃ X,(ziG g h).flatMap yP=X:=⟨_,rfl⟩
 have hXl:X.length≤100:=by
  rw[←hX]
  unfold ziG
  split
  · simp
  rw[List.flatMap_cons,List.flatMap_nil,List.append_nil,jY]
  unfold recV
  have:=yS [h.term,h.vote]
  simp only[List.length_cons,List.length_nil] at this ⊢
  omega
 rw[hX] at HN7 Hn6
 obtain ⟨HX0,HXl⟩:=hJ2 hX hXl
 clear hX hXl
 have hb0:=hr.b0
 have hb1:=hr.b1
 go_upto_if 78 with fail
 go_cut [6] (fun s6 wx=>OutB W (X++(ziH g h).flatMap yP) s6 wx)
 case first=>
  by_cases hkg2:k<gg
  rotate_left
  ·
   have Hq:Hid (X++(ziH g h).flatMap yP=X):=hJ (by unfold ziH;rw[Hk.out,Hgl.out,if_neg hkg2];simp)
   have d1:decide ((k:Int)<(gg:Int))=false:=decide_eq_false (by omega)
   go_wp2_with fail
   go_meet
   rw[Hq.out]
   exact ⟨A6,n6,c6,rfl,Hn6.out,HN7.out,HX7.out⟩
  obtain ⟨nn,hnn⟩:∃ nn,h.base+(k:Int)+1=nn:=⟨_,rfl⟩
  have Hq:Hid (X++(ziH g h).flatMap yP=X++yP (3 :: zY [nn])):=hJ (by unfold ziH recC;rw[Hk.out,Hgl.out,if_pos hkg2,hnn];simp)
  have d1:decide ((k:Int)<(gg:Int))=true:=decide_eq_true (by omega)
  have iw1:IntKind.i64.wrap (h.base+(k:Int))=h.base+(k:Int):=IntWalk.i64_in _ (by omega)
  have iw2:IntKind.i64.wrap (h.base+(k:Int)+1)=nn:=by rw[IntWalk.i64_in _ (by omega)];exact hnn
  have h64:I64 nn:=by unfold I64;omega
  have hsl:=zf9 wc [nn] 3 #[.int .i64 nn] rfl 1 rfl (by omega)
  have hEa:Ext wc (wc.alloc (.cells #[.int .i64 nn] 3)):=(Mod.refl _ wc).alloc _
  have Hsl:=hJ hsl
  have HEa:=hJ (HX7.out.ext hEa)
  have HNa:=hJ (HN7.out.ext hEa)
  clear hnn hsl hEa
  go_wp2_with fail
  refine (zhP _ _ _ 1 1 3 3 [nn] rfl Hsl.out rfl (by omega) (by simp;exact h64)).mono ?_
  rintro e w2 ⟨v2,rfl,hN2,hE2⟩
  obtain ⟨A2,c2,rfl⟩:=zC hN2.1
  have hb2:Byt w2 (zD W.heap.size) (.slice A2 _ c2) (yP (3 :: zY [nn])):=zaN.sl (w:=W) (hN2.up HEa.out)
  have hfl:(yP (3 :: zY [nn])).length≤100:=by
   rw[jY,List.length_cons]
   have:=yS [nn]
   simp only[List.length_cons,List.length_nil] at this
   omega
  have Hb2:=hJ hb2
  have HE2:=hJ (HEa.out.ext hE2)
  have HN2:=hJ (HNa.out.ext hE2)
  obtain ⟨F,hF⟩:∃ F,yP (3 :: zY [nn])=F:=⟨_,rfl⟩
  rw[hF] at Hb2 hfl Hq ⊢
  obtain ⟨fn,hfn⟩:∃ fn,F.length=fn:=⟨_,rfl⟩
  rw[hfn] at Hb2 ⊢
  obtain ⟨Hfn,Hfl⟩:=hJ2 hfn hfl
  clear hN2 hE2 hb2 hfl hF hfn
  go_wp2_with (at_builtin;refine jI rfl _ _ rfl (.slice A6 n6 c6) X W rfl HN2.out HE2.out _ _ F rfl Hb2.out (by have:=Hfl.out;have:=HXl.out;omega) ?_)
  rintro A3 n3 c3 w3 hn3 hN3 hE3 _ _
  obtain ⟨HN3,HE3,Hn3⟩:=hJ3 hN3 hE3 hn3
  clear hN3 hE3 hn3
  go_wp2_with fail
  go_meet
  rw[Hq.out]
  exact ⟨A3,n3,c3,rfl,by rw[List.length_append];exact Hn3.out.symm,HN3.out,HE3.out⟩
 obtain ⟨A8,n8,c8,rfl,hn8,hN8,hX8⟩:=hcut
 obtain ⟨Y,hY⟩:∃ Y,X++(ziH g h).flatMap yP=Y:=⟨_,rfl⟩
 have hYl:Y.length≤300:=by
  rw[←hY,List.length_append]
  have:=HXl.out
  unfold ziH
  split
  ·
   rw[List.flatMap_cons,List.flatMap_nil,List.append_nil,jY]
   unfold recC
   have:=yS [h.base+((ze0 h.log g.log:Nat):Int)+1]
   simp only[List.length_cons,List.length_nil] at this ⊢
   omega
  simp;omega
 rw[hY] at hN8 hn8
 obtain ⟨HY,HYl,HN8,HX8,Hn8⟩:=hJ5 hY hYl hN8 hX8 hn8
 clear hY hYl hN8 hX8 hn8 HN7 HX7 HA7 HS7 r10 r2
 have HA8:=hJ (HX8.out.blk HA.out id)
 have r9:wc.cell? ⟨b,9,none⟩=some (.slice Al ll cl):=zA (cs:=(h.cells (.slice As sl cs) (.slice Al ll cl))) HA8.out rfl
 have k0:(0:Int)≤(k:Int):=by omega
 have k1:(k:Int)≤(ll:Int):=by omega
 have hen:zoU W U (.slice (cutA Al k cl 16) (ll-k) (cl-k)) (h.log.drop k):=by
  have h1:=HvW.out.2.1
  rw[Hll.out] at h1
  have h2:=Sl.cutA h1 (m:=k) hkl
  rw[zjW (k:=16) (c:=zO.cells) (fun _=>rfl)] at h2
  refine ⟨?_,fun x hx=>HvW.out.2.2 x (List.mem_of_mem_drop hx)⟩
  rw[List.length_drop,Hll.out]
  exact h2
 obtain ⟨A9,hA9⟩:∃ A9,cutA Al k cl 16=A9:=⟨_,rfl⟩
 rw[hA9] at hen
 obtain ⟨HA9,Hen⟩:=hJ2 hA9 hen
 have hrx:∀ x∈h.log.drop k,jQ x=true:=fun x hx=>zgF hr.r x (List.mem_of_mem_drop hx)
 have Hrx:=hJ hrx
 obtain ⟨mm,hmm⟩:∃ mm,ll-k=mm:=⟨_,rfl⟩
 rw[hmm] at Hen
 have Hmm:=hJ hmm
 have hml:mm≤12700:=by omega
 clear hA9 hen hrx hmm
 go_wp2_with fail
 rw[HA9.out,Hmm.out]
 go_loopw [6,93] (fun ov iv wr=>∃ (i:Nat) (A:Option Addr) (n c:Nat),i≤mm∧iv=.int .i64 i∧ov=.slice A n c∧(Y++(((h.log.drop k).take i).map recE).flatMap yP).length=n∧zaN W wr (.slice A n c) (Y++(((h.log.drop k).take i).map recE).flatMap yP)∧Ext W wr) (fun _ iv _=>mm-(intOf iv).toNat)
 case atStart=>exact ⟨0,A8,n8,c8,by omega,rfl,rfl,by simpa using Hn8.out,by simpa using HN8.out,HX8.out⟩
 obtain ⟨i,A,n,c,hin,rfl,rfl,hZn,hZ,hXr⟩:=hrel
 obtain ⟨Z,hZe⟩:∃ Z,Y++(((h.log.drop k).take i).map recE).flatMap yP=Z:=⟨_,rfl⟩
 rw[hZe] at hZn hZ
 have hdl:(h.log.drop k).length=mm:=by rw[List.length_drop,Hll.out];exact Hmm.out
 have hZl:Z.length≤300+12700*400:=by
  rw[←hZe,List.length_append]
  have h1:=ziL ((h.log.drop k).take i) (fun x hx=>⟨Hrx.out x (List.mem_of_mem_take hx),Hen.out.2 x (List.mem_of_mem_take hx)⟩)
  have h2:=HYl.out
  have h3:((h.log.drop k).take i).length≤12700:=by rw[List.length_take,hdl];omega
  have h4:((h.log.drop k).take i).length*400≤12700*400:=Nat.mul_le_mul_right _ h3
  omega
 obtain ⟨HZ,HZn,HZe,HZl,HXr,Hdl⟩:=hJ6 hZ hZn hZe hZl hXr hdl
 clear hZn hZ hZe hZl hXr hdl
 by_cases hi:i<mm
 rotate_left
 ·
  have hd:decide ((i:Int)<(mm:Int))=false:=decide_eq_false (by omega)
  have hQ:zfJ g h=Z:=by
   rw[←HZe.out,List.take_of_length_le (by rw[Hdl.out];omega)]
   unfold zfJ recsP
   rw[List.flatMap_append,List.flatMap_append,HX0.out,HY.out,Hk.out]
  have HQ:=hJ hQ
  clear hQ
  go_wp2
  go_ret2
  exact ⟨.slice A n c,rfl,by rw[HQ.out];exact HZ.out.up HE.out,HE.out.ext HXr.out⟩
 obtain ⟨g1,o1,x,rfl,_,hx,hxok,hcx⟩:=(Hen.out.mod HXr.out (fun _ _=>id)).at hi
 have hrx:=Hrx.out x (List.mem_of_getElem? hx)
 have hld:=jE (P:=Tryz.prog) (o:=o1+i*16) (cs:=x.cells) yR rfl hcx
 have htx:=zkT hrx hxok
 have hel:(zfO x).length≤300:=(zc6 hrx hxok).2
 have hst:Y++(((h.log.drop k).take (i+1)).map recE).flatMap yP=Z++yP (4 :: zfO x):=by
  rw[←HZe.out]
  obtain ⟨h1,h2⟩:=List.getElem?_eq_some_iff.1 hx
  rw[List.take_succ_eq_append_getElem h1,h2,List.map_append,List.flatMap_append]
  simp[recE]
 have i0:(0:Int)≤(i:Int):=by omega
 have i1:(i:Int)<(mm:Int):=by omega
 have hz:(wr.alloc (.cells zE.toArray 100)).heap[wr.heap.size]? = some (.cells zE.toArray 100 (0,0)):=heap_alloc_new wr _
 obtain ⟨Htx,Hel,Hst⟩:=hJ3 htx hel hst
 clear hx hcx hrx htx hel hst HZe
 go_wp2_with (first|(refine yT rfl 100 _ rfl _ _ rfl hld ?_)|(refine qH rfl 100 _ _ rfl 16 wr.heap.size 0 x.cells rfl rfl yR _ zE x.cells hz rfl (by simp) (by simpa using zeA [x]) rfl ?_))
 intro w2 hb2 hm2 hs2
 have hE2:Ext wr w2:=((Mod.refl _ wr).alloc _).trans hm2 (fun k hk e=>by omega)
 have HX2:=hJ (HXr.out.ext hE2)
 have HZ2:=hJ (HZ.out.ext hE2)
 have hld2:=ld0 (P:=Tryz.prog) (cs:=x.cells) yR hb2
 clear hz hld hm2 hs2 hb2 hE2
 go_wp2_with (refine yT rfl 100 _ rfl _ _ rfl hld2 ?_)
 clear hld2
 refine (ziI w2 x hxok).mono ?_
 rintro e w3 ⟨v3,rfl,hN3,hE3⟩
 rw[Htx.out] at hN3 ⊢
 obtain ⟨A3,c3,rfl⟩:=zC hN3.1
 have hb3:Byt w3 (zD w2.heap.size) (.slice A3 (zfO x).length c3) (zfO x):=zaN.sl (w:=w2) hN3
 obtain ⟨en,hen⟩:∃ en,(zfO x).length=en:=⟨_,rfl⟩
 simp only[hen] at hb3 ⊢
 obtain ⟨Hb3,Hen2⟩:=hJ2 hb3 hen
 have HX3:=hJ (HX2.out.ext hE3)
 have HZ3:=hJ (HZ2.out.ext hE3)
 clear hN3 hE3 hb3 hen
 have hen3:en≤300:=by rw[←Hen2.out];exact Hel.out
 go_wp2_with fail
 refine (zgG w3 _ A3 en c3 4 4 (zfO x) rfl Hb3.out Hen2.out (by omega)).mono ?_
 rintro e w4 ⟨v4,rfl,hN4,hE4⟩
 have hrp:zn3 4 (zfO x)=(yP (4 :: zfO x),0):=by unfold zn3;rw[if_neg (by rw[Hen2.out];omega)]
 rw[hrp] at hN4 ⊢
 obtain ⟨A4,c4,rfl⟩:=zC hN4.1
 have hb4:Byt w4 (zD w3.heap.size) (.slice A4 _ c4) (yP (4 :: zfO x)):=zaN.sl (w:=w3) hN4
 have hfl:(yP (4 :: zfO x)).length≤400:=by rw[jY,List.length_cons,Hen2.out];omega
 have Hb4:=hJ hb4
 have HX4:=hJ (HX3.out.ext hE4)
 have HZ4:=hJ (HZ3.out.ext hE4)
 obtain ⟨F,hF⟩:∃ F,yP (4 :: zfO x)=F:=⟨_,rfl⟩
 rw[hF] at Hb4 hfl Hst ⊢
 obtain ⟨fn,hfn⟩:∃ fn,F.length=fn:=⟨_,rfl⟩
 simp only[hfn] at Hb4 ⊢
 have Hfl:=hJ hfl
 clear hN4 hE4 hrp hb4 hfl hF hfn
 go_wp2_with (at_builtin;refine jI rfl _ _ rfl (.slice A n c) Z W rfl HZ4.out HX4.out _ _ F rfl Hb4.out (by have:=Hfl.out;have:=HZl.out;omega) ?_)
 rintro A5 n5 c5 w5 hn5 hN5 hE5 _ _
 rw[←List.length_append,←Hst.out] at hn5
 rw[←Hst.out] at hN5
 obtain ⟨HN5,HE5,Hn5⟩:=hJ3 hN5 hE5 hn5
 clear hN5 hE5 hn5
 go_wp2_with fail
 go_roundw
 case rel=>exact ⟨i+1,A5,n5,c5,by omega,by go_num,rfl,Hn5.out.symm,HN5.out,HE5.out⟩
 case measure=>simp[intOf];omega
end Go.Proofs.YtjbkjhhjofeldaaGreat
