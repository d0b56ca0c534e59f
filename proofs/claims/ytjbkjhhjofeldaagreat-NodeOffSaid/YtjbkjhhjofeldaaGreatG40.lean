/-
 The contract of kv.Do. Conditions: as each theorem names them.
-/
import Derived.Test.YtjbkjhhjofeldaaGreatG39
set_option maxRecDepth 100000
set_option maxHeartbeats 1000000
namespace Go.Proofs.YtjbkjhhjofeldaaGreat
set_option linter.unusedSimpArgs false
open Go.RowKit
def SB (b:Nat) (v:Value) (c:jV) (W':World):Prop:=
 W'.cell? ⟨b,0,none⟩=some v∧W'.cell? ⟨b+1,0,none⟩=some (.int .i64 c.kind)∧W'.cell? ⟨b+1,1,none⟩=some (.string c.key)∧W'.cell? ⟨b+1,2,none⟩=some (.int .i64 c.old.kind)∧W'.cell? ⟨b+1,3,none⟩=some (.float .f64 c.old.num)∧W'.cell? ⟨b+1,4,none⟩=some (.string c.old.text)∧W'.cell? ⟨b+1,5,none⟩=some (.int .i64 c.val.kind)∧W'.cell? ⟨b+1,6,none⟩=some (.float .f64 c.val.num)∧W'.cell? ⟨b+1,7,none⟩=some (.string c.val.text)
theorem SB.of {w:World} {T:Nat→Prop} {v:Value} {l:List zJ} {c:jV} {b:Nat} {wx:World} (h:DoB w T v l c b wx):SB b v c wx:=
 ⟨zA (cs:=[v]) h.b0 rfl,zA (cs:=[.int .i64 c.kind,.string c.key,.int .i64 c.old.kind,.float .f64 c.old.num,.string c.old.text,.int .i64 c.val.kind,.float .f64 c.val.num,.string c.val.text]) h.b1 rfl,zA (cs:=[.int .i64 c.kind,.string c.key,.int .i64 c.old.kind,.float .f64 c.old.num,.string c.old.text,.int .i64 c.val.kind,.float .f64 c.val.num,.string c.val.text]) h.b1 rfl,zA (cs:=[.int .i64 c.kind,.string c.key,.int .i64 c.old.kind,.float .f64 c.old.num,.string c.old.text,.int .i64 c.val.kind,.float .f64 c.val.num,.string c.val.text]) h.b1 rfl,zA (cs:=[.int .i64 c.kind,.string c.key,.int .i64 c.old.kind,.float .f64 c.old.num,.string c.old.text,.int .i64 c.val.kind,.float .f64 c.val.num,.string c.val.text]) h.b1 rfl,zA (cs:=[.int .i64 c.kind,.string c.key,.int .i64 c.old.kind,.float .f64 c.old.num,.string c.old.text,.int .i64 c.val.kind,.float .f64 c.val.num,.string c.val.text]) h.b1 rfl,zA (cs:=[.int .i64 c.kind,.string c.key,.int .i64 c.old.kind,.float .f64 c.old.num,.string c.old.text,.int .i64 c.val.kind,.float .f64 c.val.num,.string c.val.text]) h.b1 rfl,zA (cs:=[.int .i64 c.kind,.string c.key,.int .i64 c.old.kind,.float .f64 c.old.num,.string c.old.text,.int .i64 c.val.kind,.float .f64 c.val.num,.string c.val.text]) h.b1 rfl,zA (cs:=[.int .i64 c.kind,.string c.key,.int .i64 c.old.kind,.float .f64 c.old.num,.string c.old.text,.int .i64 c.val.kind,.float .f64 c.val.num,.string c.val.text]) h.b1 rfl⟩
theorem SB.mod {b:Nat} {v:Value} {c:jV} {w w':World} {S:Nat→Prop} (h:SB b v c w) (hm:Mod S w w') (h0:¬ S b) (h1:¬ S (b+1)):SB b v c w':=by
 obtain ⟨s0,s1,s2,s3,s4,s5,s6,s7,s8⟩:=h
 exact ⟨hm.cell s0 h0,hm.cell s1 h1,hm.cell s2 h1,hm.cell s3 h1,hm.cell s4 h1,hm.cell s5 h1,hm.cell s6 h1,hm.cell s7 h1,hm.cell s8 h1⟩
theorem zlC {R:Ending→World→Prop} {t t':Array Value} (h4:t.getD 4 undef=t'.getD 4 undef) (h5:t.getD 5 undef=t'.getD 5 undef):
  ∀ (ds:List Deferred) (u:FrameMode) (w:World),Leaves Tryz.prog Tryz.f176 t R ds u w→Leaves Tryz.prog Tryz.f176 t' R ds u w:=by
 have hres:results Tryz.f176 t=results Tryz.f176 t':=by
  rw[Array.getD_eq_getD_getElem?,Array.getD_eq_getD_getElem?] at h4 h5
  simp[results,Tryz.results176,h4,h5]
 intro ds
 induction ds with
 | nil=>
  intro u w h
  cases u <;> simp only[Leaves] at h ⊢
  · rw[←hres];exact h
  exact h
 | cons d ds ih=>
  intro u w h
  obtain ⟨hu,fv,cap,f,args,h1,h2,h3⟩:=h
  refine ⟨hu,fv,cap,f,args,h1,h2,h3.mono fun e u' w' hr=>?_⟩
  cases e with
  | returned v=>exact ih _ _ hr
  | panicked chain=>exact ih _ _ hr
  | outgrown=>exact hr
theorem zcB {R:Ending→World→Prop} {d:Nat} {v:Value} (h4:d≠4) (h5:d≠5) (c:List PanicEntry) (a:Act) (w:World) (h:bodyPostD Tryz.prog Tryz.f176 R (.panic c) (a.put (some d) v) w):
  bodyPostD Tryz.prog Tryz.f176 R (.panic c) a w:=
 zlC (by simp[Act.put,Array.getElem?_setIfInBounds,h4]) (by simp[Act.put,Array.getElem?_setIfInBounds,h5]) _ _ _ h
theorem kD_bad (w:World) (T:Nat→Prop) (A:Option Addr) (n cc:Nat) (l:List zJ) (c:jV) (h:Prs w T (.slice A n cc) l) (hlen:l.length≤1000000) (k:Int) (hc:zcP c=k) (hk:k≠0):
  Calls Tryz.prog 176 #[.slice A n cc,.agg #[.int .i64 c.kind,.string c.key,.int .i64 c.old.kind,.float .f64 c.old.num,.string c.old.text,.int .i64 c.val.kind,.float .f64 c.val.num,.string c.val.text]] w (ziY w l ⟨k,yO.zero⟩):=by
 go_enter_defers Tryz.func176,Tryz.ntmps176
 go_wp2_with fail
 obtain ⟨W0,hW0⟩:∃ W0,W0=(((w.alloc (.cells #[.slice A n cc] 38)).alloc (.cells #[.int .i64 c.kind,.string c.key,.int .i64 c.old.kind,.float .f64 c.old.num,.string c.old.text,.int .i64 c.val.kind,.float .f64 c.val.num,.string c.val.text] 27)).alloc (.cells #[.slice none 0 0] 38)).alloc (.cells #[.int .i64 0,.int .i64 0,.float .f64 0,.string ⟨#[]⟩] 48):=⟨_,rfl⟩
 obtain ⟨h0,h1,h2,h3⟩:=zfX w (.cells #[.slice A n cc] 38) (.cells #[.int .i64 c.kind,.string c.key,.int .i64 c.old.kind,.float .f64 c.old.num,.string c.old.text,.int .i64 c.val.kind,.float .f64 c.val.num,.string c.val.text] 27) (.cells #[.slice none 0 0] 38) (.cells #[.int .i64 0,.int .i64 0,.float .f64 0,.string ⟨#[]⟩] 48)
 have hE:Ext w W0:=by rw[hW0];exact ((((Mod.refl _ w).alloc _).alloc _).alloc _).alloc _
 obtain ⟨b,hb⟩:∃ b,b=w.heap.size:=⟨_,rfl⟩
 rw[←hW0,←hb] at h0 h1 h2 h3 ⊢
 have hB:DoB w T (.slice A n cc) l c b W0:=⟨h0,h1,h2,h3,h.ext hE,hE,Nat.le_of_eq hb.symm⟩
 have HB0:=hJ hB
 clear hW0 hb h0 h1 h2 h3 hE
 refine (zd9 c _).mono ?_
 rintro e w1 ⟨rfl,hE1⟩
 have hB1:=hB.mod hE1
 have HB1:=hJ hB1
 rw[hc]
 clear hE1 hB
 clear hB1 hc
 go_wp2_with fail
 refine (zfV k hk _).mono ?_
 rintro e w2 ⟨rfl,rfl⟩
 refine zgY HB1.out hlen k yO.zero _ rfl rfl
theorem kD_bad2 (w:World) (T:Nat→Prop) (A:Option Addr) (n cc:Nat) (l:List zJ) (c:jV) (h:Prs w T (.slice A n cc) l) (hlen:l.length≤1000000) (hc:zcP c=0) (hp:xG l=false):
  Calls Tryz.prog 176 #[.slice A n cc,.agg #[.int .i64 c.kind,.string c.key,.int .i64 c.old.kind,.float .f64 c.old.num,.string c.old.text,.int .i64 c.val.kind,.float .f64 c.val.num,.string c.val.text]] w (ziY w l ⟨6,yO.zero⟩):=by
 go_enter_defers Tryz.func176,Tryz.ntmps176
 go_wp2_with fail
 obtain ⟨W0,hW0⟩:∃ W0,W0=(((w.alloc (.cells #[.slice A n cc] 38)).alloc (.cells #[.int .i64 c.kind,.string c.key,.int .i64 c.old.kind,.float .f64 c.old.num,.string c.old.text,.int .i64 c.val.kind,.float .f64 c.val.num,.string c.val.text] 27)).alloc (.cells #[.slice none 0 0] 38)).alloc (.cells #[.int .i64 0,.int .i64 0,.float .f64 0,.string ⟨#[]⟩] 48):=⟨_,rfl⟩
 obtain ⟨h0,h1,h2,h3⟩:=zfX w (.cells #[.slice A n cc] 38) (.cells #[.int .i64 c.kind,.string c.key,.int .i64 c.old.kind,.float .f64 c.old.num,.string c.old.text,.int .i64 c.val.kind,.float .f64 c.val.num,.string c.val.text] 27) (.cells #[.slice none 0 0] 38) (.cells #[.int .i64 0,.int .i64 0,.float .f64 0,.string ⟨#[]⟩] 48)
 have hE:Ext w W0:=by rw[hW0];exact ((((Mod.refl _ w).alloc _).alloc _).alloc _).alloc _
 obtain ⟨b,hb⟩:∃ b,b=w.heap.size:=⟨_,rfl⟩
 rw[←hW0,←hb] at h0 h1 h2 h3 ⊢
 have hB:DoB w T (.slice A n cc) l c b W0:=⟨h0,h1,h2,h3,h.ext hE,hE,Nat.le_of_eq hb.symm⟩
 have HB0:=hJ hB
 clear hW0 hb h0 h1 h2 h3 hE
 refine (zd9 c _).mono ?_
 rintro e w1 ⟨rfl,hE1⟩
 have hB1:=hB.mod hE1
 have HB1:=hJ hB1
 rw[hc]
 clear hE1 hB
 clear hc
 go_wp2_with fail
 refine (zaP _).mono ?_
 rintro e w2 ⟨rfl,rfl⟩
 have m0:w1.cell? ⟨b,0,none⟩=some _:=zA hB1.b0 rfl
 clear hB1
 go_wp2_with fail
 refine (zfU _ T _ l HB1.out.pr).mono ?_
 rintro e w2 ⟨rfl,hE2⟩
 have hB2:=HB1.out.mod hE2
 have HB2:=hJ hB2
 clear hE2 m0
 rw[ze3 hp]
 clear hp hB2
 go_wp2_with fail
 refine (zfV 6 (by decide) _).mono ?_
 rintro e w3 ⟨rfl,rfl⟩
 refine zgY HB2.out hlen 6 yO.zero _ rfl rfl
theorem kD_no (w:World) (T:Nat→Prop) (hT:∀ g,T g→g<w.heap.size) (A:Option Addr) (n cc:Nat) (l:List zJ) (c:jV) (h:Prs w T (.slice A n cc) l) (hlen:l.length≤1000000) (hc:zcP c=0) (hp:xG l=true) (hcv:c.val.ok) (L:List zJ) (r:yH) (hr:doP l c=(L,r)) (h0:r.code≠0):
  Calls Tryz.prog 176 #[.slice A n cc,.agg #[.int .i64 c.kind,.string c.key,.int .i64 c.old.kind,.float .f64 c.old.num,.string c.old.text,.int .i64 c.val.kind,.float .f64 c.val.num,.string c.val.text]] w (ziY w l r):=by
 go_enter_defers Tryz.func176,Tryz.ntmps176
 go_wp2_with fail
 obtain ⟨W0,hW0⟩:∃ W0,W0=(((w.alloc (.cells #[.slice A n cc] 38)).alloc (.cells #[.int .i64 c.kind,.string c.key,.int .i64 c.old.kind,.float .f64 c.old.num,.string c.old.text,.int .i64 c.val.kind,.float .f64 c.val.num,.string c.val.text] 27)).alloc (.cells #[.slice none 0 0] 38)).alloc (.cells #[.int .i64 0,.int .i64 0,.float .f64 0,.string ⟨#[]⟩] 48):=⟨_,rfl⟩
 obtain ⟨h0,h1,h2,h3⟩:=zfX w (.cells #[.slice A n cc] 38) (.cells #[.int .i64 c.kind,.string c.key,.int .i64 c.old.kind,.float .f64 c.old.num,.string c.old.text,.int .i64 c.val.kind,.float .f64 c.val.num,.string c.val.text] 27) (.cells #[.slice none 0 0] 38) (.cells #[.int .i64 0,.int .i64 0,.float .f64 0,.string ⟨#[]⟩] 48)
 have hE:Ext w W0:=by rw[hW0];exact ((((Mod.refl _ w).alloc _).alloc _).alloc _).alloc _
 obtain ⟨b,hb⟩:∃ b,b=w.heap.size:=⟨_,rfl⟩
 rw[←hW0,←hb] at h0 h1 h2 h3 ⊢
 have hB:DoB w T (.slice A n cc) l c b W0:=⟨h0,h1,h2,h3,h.ext hE,hE,Nat.le_of_eq hb.symm⟩
 have HB0:=hJ hB
 clear hW0 hb h0 h1 h2 h3 hE
 refine (zd9 c _).mono ?_
 rintro e w1 ⟨rfl,hE1⟩
 have hB1:=hB.mod hE1
 have HB1:=hJ hB1
 rw[hc]
 clear hE1 hB
 have Hc:=hJ hc
 clear hc
 go_wp2_with fail
 refine (zaP _).mono ?_
 rintro e w2 ⟨rfl,rfl⟩
 have m0:w1.cell? ⟨b,0,none⟩=some _:=zA hB1.b0 rfl
 clear hB1
 go_wp2_with fail
 refine (zfU _ T _ l HB1.out.pr).mono ?_
 rintro e w2 ⟨rfl,hE2⟩
 have hB2:=HB1.out.mod hE2
 have HB2:=hJ hB2
 clear hE2 m0
 rw[ziX hp]
 obtain ⟨Hp,Hr⟩:=hJ2 hp hr
 clear hp hr
 go_wp2_with fail
 refine (zaP _).mono ?_
 rintro e w3 ⟨rfl,rfl⟩
 have m0:w2.cell? ⟨b,0,none⟩=some _:=zA hB2.b0 rfl
 obtain ⟨k0,k1,k2,k3,k4,k5,k6,k7⟩:=cq8 hB2.b1
 have hlt:=hB2.lt
 have hb0:b<w2.heap.size:=by omega
 have hb1:b+1<w2.heap.size:=by omega
 clear hB2
 have h2:Prs w2.drew T (.slice A n cc) l:=HB2.out.pr
 go_wp2_with fail
 refine wp_region_held_drew (S:=SB b (.slice A n cc) c) (by kernel_rfl) (SB.mod (S:=fun _=>False) (SB.of HB2.out) (Mod.refl _ w2).drew id id) (fun hS=>?_)
 refine zbB (i:=0) (v:=?_) (some 13) rfl rfl (by kernel_rfl) (by kernel_rfl) (by kernel_rfl) (fun c a w h=>zcB (d:=13) (by decide) (by decide) c a w h) (Or.inl ⟨by kernel_rfl,?_⟩) hS ?_
 rotate_left
 ·
  rintro W' ⟨s0,s1,s2,s3,s4,s5,s6,s7,s8⟩
  go_simp
  try rfl
 try simp only[pL]
 refine zbB (i:=2) (v:=?_) (some 15) rfl rfl (by kernel_rfl) (by kernel_rfl) (by kernel_rfl) (fun c a w h=>zcB (d:=15) (by decide) (by decide) c a w h) (Or.inl ⟨by kernel_rfl,?_⟩) hS ?_
 rotate_left
 ·
  rintro W' ⟨s0,s1,s2,s3,s4,s5,s6,s7,s8⟩
  go_simp
  try rfl
 try simp only[pL]
 refine zaJ 1 rfl (fun K hK=>?_)
 go_simp
 go_wp2_with fail
 refine (zeK _ T _ l h2 hlen).mono ?_
 rintro e w5 ⟨v5,rfl,hN5,hE5⟩
 obtain ⟨A5,c5,rfl⟩:=zC hN5.1
 have hX:SB b (.slice A n cc) c w5:=SB.mod hS hE5 id id
 have HB5:=hJ (HB2.out.mod ((Mod.refl _ w2).drew.ext hE5))
 have HN5:=hJ hN5
 clear hE5 hN5
 go_simp
 refine hK.out _ _ hX (fun hS=>?_)
 clear hK K hX
 refine zaJ 3 rfl (fun K hK=>?_)
 go_simp
 go_wp2_with fail
 refine (kv_do _ _ l c ⟨HN5.out.1,HN5.out.2.1⟩ Hc.out Hp.out hcv).mono ?_
 rintro e w6 ⟨hm6,hD⟩
 rw[Hr.out] at hD
 have HB6:=hJ (HB5.out.drewmod hm6 (fun g hg=>by have h1:=HN5.out.2.2 g hg;have h2:=HB2.out.lt;have h3:w2.heap.size≤g:=h1;exact ⟨by omega,fun k hk=>by have h4:=hT k hk;have h5:=HB2.out.ext.size;omega⟩) (fun g hg=>by have h3:w2.heap.size≤g:=HN5.out.2.2 g hg;have h5:=HB2.out.ext.size;omega))
 rcases hD with ⟨h,_⟩|⟨_,rfl⟩
 · exact absurd h h0
 clear hm6
 refine zgY HB6.out hlen r.code r.val _ rfl rfl
theorem kD_yes (w:World) (T:Nat→Prop) (hT:∀ g,T g→g<w.heap.size) (A:Option Addr) (n cc:Nat) (l:List zJ) (c:jV) (h:Prs w T (.slice A n cc) l) (hlen:l.length≤1000000) (hc:zcP c=0) (hp:xG l=true) (hcv:c.val.ok) (L:List zJ) (t:yO) (hr:doP l c=(L,⟨0,t⟩)):
  Calls Tryz.prog 176 #[.slice A n cc,.agg #[.int .i64 c.kind,.string c.key,.int .i64 c.old.kind,.float .f64 c.old.num,.string c.old.text,.int .i64 c.val.kind,.float .f64 c.val.num,.string c.val.text]] w (ziY w L ⟨0,t⟩):=by
 go_enter_defers Tryz.func176,Tryz.ntmps176
 go_wp2_with fail
 obtain ⟨W0,hW0⟩:∃ W0,W0=(((w.alloc (.cells #[.slice A n cc] 38)).alloc (.cells #[.int .i64 c.kind,.string c.key,.int .i64 c.old.kind,.float .f64 c.old.num,.string c.old.text,.int .i64 c.val.kind,.float .f64 c.val.num,.string c.val.text] 27)).alloc (.cells #[.slice none 0 0] 38)).alloc (.cells #[.int .i64 0,.int .i64 0,.float .f64 0,.string ⟨#[]⟩] 48):=⟨_,rfl⟩
 obtain ⟨h0,h1,h2,h3⟩:=zfX w (.cells #[.slice A n cc] 38) (.cells #[.int .i64 c.kind,.string c.key,.int .i64 c.old.kind,.float .f64 c.old.num,.string c.old.text,.int .i64 c.val.kind,.float .f64 c.val.num,.string c.val.text] 27) (.cells #[.slice none 0 0] 38) (.cells #[.int .i64 0,.int .i64 0,.float .f64 0,.string ⟨#[]⟩] 48)
 have hE:Ext w W0:=by rw[hW0];exact ((((Mod.refl _ w).alloc _).alloc _).alloc _).alloc _
 obtain ⟨b,hb⟩:∃ b,b=w.heap.size:=⟨_,rfl⟩
 rw[←hW0,←hb] at h0 h1 h2 h3 ⊢
 have hB:DoB w T (.slice A n cc) l c b W0:=⟨h0,h1,h2,h3,h.ext hE,hE,Nat.le_of_eq hb.symm⟩
 have HB0:=hJ hB
 clear hW0 hb h0 h1 h2 h3 hE
 refine (zd9 c _).mono ?_
 rintro e w1 ⟨rfl,hE1⟩
 have hB1:=hB.mod hE1
 have HB1:=hJ hB1
 rw[hc]
 clear hE1 hB
 have Hc:=hJ hc
 clear hc
 go_wp2_with fail
 refine (zaP _).mono ?_
 rintro e w2 ⟨rfl,rfl⟩
 have m0:w1.cell? ⟨b,0,none⟩=some _:=zA hB1.b0 rfl
 clear hB1
 go_wp2_with fail
 refine (zfU _ T _ l HB1.out.pr).mono ?_
 rintro e w2 ⟨rfl,hE2⟩
 have hB2:=HB1.out.mod hE2
 have HB2:=hJ hB2
 clear hE2 m0
 rw[ziX hp]
 obtain ⟨Hp,Hr⟩:=hJ2 hp hr
 clear hp hr
 go_wp2_with fail
 refine (zaP _).mono ?_
 rintro e w3 ⟨rfl,rfl⟩
 have m0:w2.cell? ⟨b,0,none⟩=some _:=zA hB2.b0 rfl
 obtain ⟨k0,k1,k2,k3,k4,k5,k6,k7⟩:=cq8 hB2.b1
 have hlt:=hB2.lt
 have hb0:b<w2.heap.size:=by omega
 have hb1:b+1<w2.heap.size:=by omega
 clear hB2
 have h2:Prs w2.drew T (.slice A n cc) l:=HB2.out.pr
 go_wp2_with fail
 refine wp_region_held_drew (S:=SB b (.slice A n cc) c) (by kernel_rfl) (SB.mod (S:=fun _=>False) (SB.of HB2.out) (Mod.refl _ w2).drew id id) (fun hS=>?_)
 refine zbB (i:=0) (v:=?_) (some 13) rfl rfl (by kernel_rfl) (by kernel_rfl) (by kernel_rfl) (fun c a w h=>zcB (d:=13) (by decide) (by decide) c a w h) (Or.inl ⟨by kernel_rfl,?_⟩) hS ?_
 rotate_left
 ·
  rintro W' ⟨s0,s1,s2,s3,s4,s5,s6,s7,s8⟩
  go_simp
  try rfl
 try simp only[pL]
 refine zbB (i:=2) (v:=?_) (some 15) rfl rfl (by kernel_rfl) (by kernel_rfl) (by kernel_rfl) (fun c a w h=>zcB (d:=15) (by decide) (by decide) c a w h) (Or.inl ⟨by kernel_rfl,?_⟩) hS ?_
 rotate_left
 ·
  rintro W' ⟨s0,s1,s2,s3,s4,s5,s6,s7,s8⟩
  go_simp
  try rfl
 try simp only[pL]
 refine zaJ 1 rfl (fun K hK=>?_)
 go_simp
 go_wp2_with fail
 refine (zeK _ T _ l h2 hlen).mono ?_
 rintro e w5 ⟨v5,rfl,hN5,hE5⟩
 obtain ⟨A5,c5,rfl⟩:=zC hN5.1
 have hX:SB b (.slice A n cc) c w5:=SB.mod hS hE5 id id
 have HB5:=hJ (HB2.out.mod ((Mod.refl _ w2).drew.ext hE5))
 have HN5:=hJ hN5
 clear hE5 hN5
 go_simp
 refine hK.out _ _ hX (fun hS=>?_)
 clear hK K hX
 refine zaJ 3 rfl (fun K hK=>?_)
 go_simp
 go_wp2_with fail
 refine (kv_do _ _ l c ⟨HN5.out.1,HN5.out.2.1⟩ Hc.out Hp.out hcv).mono ?_
 rintro e w6 ⟨hm6,hD⟩
 rw[Hr.out] at hD
 have HB6:=hJ (HB5.out.drewmod hm6 (fun g hg=>by have h1:=HN5.out.2.2 g hg;have h2:=HB2.out.lt;have h3:w2.heap.size≤g:=h1;exact ⟨by omega,fun k hk=>by have h4:=hT k hk;have h5:=HB2.out.ext.size;omega⟩) (fun g hg=>by have h3:w2.heap.size≤g:=HN5.out.2.2 g hg;have h5:=HB2.out.ext.size;omega))
 rcases hD with ⟨_,v6,rfl,ho6,hg6⟩|⟨h,_⟩
 case inr=>exact absurd rfl h
 obtain ⟨A6,c6,rfl⟩:=zC ho6.1
 obtain ⟨m6,hm6'⟩:∃ m6,L.length=m6:=⟨_,rfl⟩
 have HM6:=hJ hm6'
 simp only at ho6 hg6 ⊢
 rw[hm6'] at ho6 hg6 ⊢
 have HO6:=hJ ho6
 have HG6:Hid (∀ g,(Value.slice A6 m6 c6).ownBlock=some g→b+1+1+1<g∧w.heap.size≤g):=hJ (fun g hg=>by
  have h2:=HB2.out.lt
  have h6:=HB2.out.ext.size
  rcases hg6 g hg with h|h
  · have h3:w2.heap.size≤g:=HN5.out.2.2 g h
    exact ⟨by omega,by omega⟩
  have h5:=HB5.out.lt
  have h7:=HB5.out.ext.size
  exact ⟨by omega,by omega⟩)
 have hX6:SB b (.slice A n cc) c w6:=SB.of HB6.out
 clear hm6 ho6 hg6 hm6'
 go_simp
 refine hK.out _ _ hX6 (fun hS=>?_)
 clear hK K
 refine zbB (i:=4) (v:=?_) (some 17) rfl rfl (by kernel_rfl) (by kernel_rfl) (by kernel_rfl) (fun c a w h=>zcB (d:=17) (by decide) (by decide) c a w h) (Or.inl ⟨by kernel_rfl,?_⟩) hS ?_
 rotate_left
 ·
  rintro W' _
  go_simp
  try rfl
 try simp only[pL]
 refine zbB (i:=5) (v:=?_) (some 18) rfl rfl (by kernel_rfl) (by kernel_rfl) (by kernel_rfl) (fun c a w h=>zcB (d:=18) (by decide) (by decide) c a w h) (Or.inl ⟨by kernel_rfl,?_⟩) hS ?_
 rotate_left
 ·
  rintro W' _
  go_simp
  try rfl
 try simp only[pL]
 have j0:=zA (cs:=[.slice none 0 0]) (j:=0) HB6.out.b2 rfl
 have j1:=zB 0 HB6.out.b2
 have i0:=zA (cs:=[.int .i64 0,.int .i64 0,.float .f64 0,.string ⟨#[]⟩]) (j:=0) HB6.out.b3 rfl
 have i1:=zA (cs:=[.int .i64 0,.int .i64 0,.float .f64 0,.string ⟨#[]⟩]) (j:=1) HB6.out.b3 rfl
 have i2:=zA (cs:=[.int .i64 0,.int .i64 0,.float .f64 0,.string ⟨#[]⟩]) (j:=2) HB6.out.b3 rfl
 have i3:=zA (cs:=[.int .i64 0,.int .i64 0,.float .f64 0,.string ⟨#[]⟩]) (j:=3) HB6.out.b3 rfl
 have f0:=zB 0 HB6.out.b3
 have f1:=zB 1 HB6.out.b3
 have f2:=zB 2 HB6.out.b3
 have f3:=zB 3 HB6.out.b3
 have hX7:SB b (.slice A n cc) c (w6.setCell ⟨b+1+1,0,none⟩ (.slice A6 m6 c6)):=hX6.mod (zM (b:=b+1+1) (Mod.refl _ w6) 0 _) (by omega) (by omega)
 refine zaJ 6 rfl (fun K hK=>?_)
 go_simp
 refine hK.out _ _ hX7 (fun hS=>?_)
 clear hK K
 have hX8:SB b (.slice A n cc) c (((((w6.setCell ⟨b+1+1,0,none⟩ (.slice A6 m6 c6)).setCell ⟨b+1+1+1,0,none⟩ (.int .i64 0)).setCell ⟨b+1+1+1,1,none⟩ (.int .i64 t.kind)).setCell ⟨b+1+1+1,2,none⟩ (.float .f64 t.num)).setCell ⟨b+1+1+1,3,none⟩ (.string t.text)):=
  hX7.mod (zM (b:=b+1+1+1) (zM (zM (zM (Mod.refl _ _) 0 _) 1 _) 2 _) 3 _) (by omega) (by omega)
 refine zaJ 7 rfl (fun K hK=>?_)
 go_simp
 refine hK.out _ _ hX8 (fun hS=>?_)
 clear hK K
 refine wpAnyH_done (by kernel_rfl) ?_ _
 obtain ⟨wf,hwf⟩:∃ wf,(((((w6.setCell ⟨b+1+1,0,none⟩ (.slice A6 m6 c6)).setCell ⟨b+1+1+1,0,none⟩ (.int .i64 0)).setCell ⟨b+1+1+1,1,none⟩ (.int .i64 t.kind)).setCell ⟨b+1+1+1,2,none⟩ (.float .f64 t.num)).setCell ⟨b+1+1+1,3,none⟩ (.string t.text))=wf:=⟨_,rfl⟩
 have hmf:Mod (fun k=>k=b+1+1∨k=b+1+1+1) w6 wf:=by
  rw[←hwf]
  exact ((((((Mod.refl _ w6).setCell (p:=⟨b+1+1,0,none⟩) (.inr (.inl rfl)) _).setCell (p:=⟨b+1+1+1,0,none⟩) (.inr (.inr rfl)) _).setCell (p:=⟨b+1+1+1,1,none⟩) (.inr (.inr rfl)) _).setCell (p:=⟨b+1+1+1,2,none⟩) (.inr (.inr rfl)) _).setCell (p:=⟨b+1+1+1,3,none⟩) (.inr (.inr rfl)) _)
 have hf2:wf.heap[b+1+1]? = some (.cells #[.slice A6 m6 c6] 38 (0,0)):=by
  rw[←hwf]
  have:=HB6.out.b2
  simp[World.setCell,Array.getElem?_modify,this]
 have hf3:wf.heap[b+1+1+1]? = some (.cells #[.int .i64 0,.int .i64 t.kind,.float .f64 t.num,.string t.text] 48 (0,0)):=by
  rw[←hwf]
  have:=HB6.out.b3
  simp[World.setCell,Array.getElem?_modify,this]
 rw[hwf]
 obtain ⟨HMF,HF2,HF3⟩:=hJ3 hmf hf2 hf3
 clear hwf hmf hf2 hf3 hX6 hX7 hX8 hS j0 j1 i0 i1 i2 i3 f0 f1 f2 f3
 go_wp2_with fail
 refine leaves_cons (f:=276) (args:=#[.pointer (some ⟨b,0,none⟩),.pointer (some ⟨b+1+1,0,none⟩),.pointer (some ⟨b+1+1+1,0,none⟩)]) (by simp) (by simp[go_sem]) ?_
 refine (kd_idle _ _ _ _).mono ?_
 rintro e u' w' ⟨rfl,rfl,o,rfl⟩
 have hEf:Ext wf (wf.alloc o):=(Mod.refl _ wf).alloc o
 have q0:=zA (cs:=[.slice A6 m6 c6]) (j:=0) (hEf.blk HF2.out id) rfl
 have r0:=zA (cs:=[.int .i64 0,.int .i64 t.kind,.float .f64 t.num,.string t.text]) (j:=0) (hEf.blk HF3.out id) rfl
 have r1:=zA (cs:=[.int .i64 0,.int .i64 t.kind,.float .f64 t.num,.string t.text]) (j:=1) (hEf.blk HF3.out id) rfl
 have r2:=zA (cs:=[.int .i64 0,.int .i64 t.kind,.float .f64 t.num,.string t.text]) (j:=2) (hEf.blk HF3.out id) rfl
 have r3:=zA (cs:=[.int .i64 0,.int .i64 t.kind,.float .f64 t.num,.string t.text]) (j:=3) (hEf.blk HF3.out id) rfl
 have hF:ziY w L ⟨0,t⟩ (.returned (.tuple #[.slice A6 m6 c6,.agg #[.int .i64 0,.int .i64 t.kind,.float .f64 t.num,.string t.text]])) (wf.alloc o):=by
  have hO:=(HO6.out.mod HMF.out (fun g hg e=>by have:=(HG6.out g hg).1;omega)).mod hEf (fun _ _=>id)
  refine ⟨_,rfl,⟨hO.1,hO.2,fun g hg=>(HG6.out g hg).2⟩,Mod.toExt (((Ext.mod HB6.out.ext (zD w.heap.size)).trans HMF.out (fun k hk e=>by have:=HB6.out.le;unfold zD;omega)).ext hEf)⟩
 simp[Leaves,settle,results,Tryz.results176,go_sem,q0,r0,r1,r2,r3]
 exact hF
theorem kv_Do (w:World) (T:Nat→Prop) (v:Value) (l:List zJ) (c:jV) (h:Prs w T v l) (hlen:l.length≤1000000) (hcv:c.val.ok):
  Calls Tryz.prog 176 #[v,.agg #[.int .i64 c.kind,.string c.key,.int .i64 c.old.kind,.float .f64 c.old.num,.string c.old.text,.int .i64 c.val.kind,.float .f64 c.val.num,.string c.val.text]] w (ziY w (doP l c).1 (doP l c).2):=by
 have hP:Prs w (fun g=>T g∧g<w.heap.size) v l:=⟨h.1.cap (by omega),h.2⟩
 obtain ⟨A,cc,rfl⟩:=hP.form
 by_cases hc:zcP c=0
 case neg=>
  rw[do_bad hc (.inl rfl)]
  exact kD_bad w _ A _ cc l c hP hlen _ rfl hc
 rcases hp:xG l with _|_
 · rw[do_bad (n:=6) (by decide) (.inr ⟨hc,hp,rfl⟩)]
   exact kD_bad2 w _ A _ cc l c hP hlen hc hp
 rcases hr:doP l c with ⟨L,r⟩
 by_cases h0:r.code=0
 ·
  obtain ⟨rc,rv⟩:=r
  simp only at h0
  subst h0
  exact kD_yes w _ (fun g hg=>hg.2) A _ cc l c hP hlen hc hp hcv L rv hr
 have e:=(do_no (l:=l) (c:=c) (by rw[hr];exact h0)).1
 rw[hr] at e
 simp only at e
 subst e
 exact kD_no w _ (fun g hg=>hg.2) A _ cc L c hP hlen hc hp hcv L r hr h0
theorem zi1 (w:World) (T:Nat→Prop) (v:Value) (l:List zJ) (c:jV) (h:Prs w T v l) (hlen:l.length≤1000000) (hcv:c.val.ok) {L:List zJ} {r:yH} (hr:doP l c=(L,r)):
  Calls Tryz.prog 176 #[v,.agg #[.int .i64 c.kind,.string c.key,.int .i64 c.old.kind,.float .f64 c.old.num,.string c.old.text,.int .i64 c.val.kind,.float .f64 c.val.num,.string c.val.text]] w (ziY w L r):=by
 have:=kv_Do w T v l c h hlen hcv
 rw[hr] at this
 exact this
theorem zqT {l:List zJ} (h:xG l=true):l.length≤32:=((xO l).1 h).1
set_option maxHeartbeats 2000000
def zbX (w:World) (m:jK) (r:yH) (e:Ending) (w':World):Prop:=
 ∃ pv' v',e=.returned (.tuple #[.agg #[pv',v'],.agg #[.int .i64 r.code,.int .i64 r.val.kind,.float .f64 r.val.num,.string r.val.text]])∧zn5 w w' pv' v' m∧Ext w w'
theorem zbA (w:World) (o p q r:Obj) {W:World} (h:W=(((w.alloc o).alloc p).alloc q).alloc r):
  W.heap[w.heap.size]? = some o∧W.heap[w.heap.size+1]? = some p∧W.heap[w.heap.size+1+1]? = some q∧W.heap[w.heap.size+1+1+1]? = some r∧W.heap.size=w.heap.size+4∧Ext w W:=by
 subst h
 obtain ⟨h1,h2,h3⟩:=xY w o p
 obtain ⟨h4,h5,h6⟩:=xY ((w.alloc o).alloc p) q r
 have hE:Ext ((w.alloc o).alloc p) ((((w.alloc o).alloc p).alloc q).alloc r):=((Mod.refl _ _).alloc _).alloc _
 rw[h3] at h4 h5 h6
 exact ⟨hE.blk h1 id,hE.blk h2 id,h4,h5,by rw[h6],((((Mod.refl _ w).alloc _).alloc _).alloc _).alloc _⟩
theorem s_do_arg (w:World) (T U:Nat→Prop) (pv v:Value) (p:List zJ) (l:List zR) (c:zW) (hP:Prs w U pv p) (h:Ses w T v l) (hp:p.length≤1000000) (hl:l.length≤1000000) (hc:yX c≠0):
  Calls Tryz.prog 173 #[.agg #[pv,v],.agg #[.int .i64 c.client,.int .i64 c.seq,.int .i64 c.cmd.kind,.string c.cmd.key,.int .i64 c.cmd.old.kind,.float .f64 c.cmd.old.num,.string c.cmd.old.text,.int .i64 c.cmd.val.kind,.float .f64 c.cmd.val.num,.string c.cmd.val.text]] w (zbX w ⟨p,l⟩ ⟨yX c,yO.zero⟩):=by
 obtain ⟨A,c0,rfl⟩:=h.form
 obtain ⟨A',c',rfl⟩:=hP.form
 obtain ⟨b,hb⟩:∃ b,w.heap.size=b:=⟨_,rfl⟩
 obtain ⟨W,hW⟩:∃ W,W=(((w.alloc (.cells #[.slice A' p.length c',.slice A l.length c0] 41)).alloc (.cells #[.int .i64 c.client,.int .i64 c.seq,.int .i64 c.cmd.kind,.string c.cmd.key,.int .i64 c.cmd.old.kind,.float .f64 c.cmd.old.num,.string c.cmd.old.text,.int .i64 c.cmd.val.kind,.float .f64 c.cmd.val.num,.string c.cmd.val.text] 29)).alloc (.cells #[.slice none 0 0,.slice none 0 0] 41)).alloc (.cells #[.int .i64 0,.int .i64 0,.float .f64 0,.string ⟨#[]⟩] 48):=⟨_,rfl⟩
 obtain ⟨hA,hB,hC,hD,hsz,hE⟩:=zbA w _ _ _ _ hW
 rw[hb] at hA hB hC hD hsz
 have hPW:=hP.ext hE
 have hSW:=h.ext hE
 obtain ⟨HW,Hb,HE,HA,HB,HC,HD⟩:=hJ7 hW hb hE hA hB hC hD
 clear hA hB hC hD hW hb hE
 go_enter Tryz.func173,Tryz.ntmps173
 go_wp2_with fail
 rw[←HW.out,Hb.out]
 refine (zhV W T U _ _ p l hPW hSW hp hl).mono ?_
 rintro e w1 ⟨pv1,v1,rfl,hN1,hE1⟩
 obtain ⟨A1,c1,rfl⟩:=zC hN1.1.1
 obtain ⟨A2,c2,rfl⟩:=zC hN1.2.1.1
 have hA1:=hE1.blk HA.out id
 have hB1:=hE1.blk HB.out id
 have hC1:=hE1.blk HC.out id
 have hD1:=hE1.blk HD.out id
 have hfar:(∀ g,(Value.slice A1 p.length c1).ownBlock=some g→b+4≤g)∧(∀ g,(Value.slice A2 l.length c2).ownBlock=some g→b+4≤g):=⟨fun g hg=>by have:=hN1.1.2.2 g hg;omega,fun g hg=>by have:=hN1.2.1.2.2 g hg;omega⟩
 obtain ⟨W2,hW2⟩:∃ W2,W2=(w1.setCell ⟨b,0,none⟩ (.slice A1 p.length c1)).setCell ⟨b,1,none⟩ (.slice A2 l.length c2):=⟨_,rfl⟩
 have hM2:Mod (fun k=>k=b) w1 W2:=by rw[hW2];exact zM (zM (Mod.refl _ _) _ _) _ _
 have hA2:W2.heap[b]? = some (.cells #[.slice A1 p.length c1,.slice A2 l.length c2] 41 (0,0)):=by rw[hW2];simp[World.setCell,Array.getElem?_modify,hA1]
 have hB2:=hM2.blk hB1 (by omega)
 have hC2:=hM2.blk hC1 (by omega)
 have hD2:=hM2.blk hD1 (by omega)
 have hNw:zn5 w w1 (.slice A1 p.length c1) (.slice A2 l.length c2) ⟨p,l⟩:=⟨zaQ hN1.1 HE.out.size,⟨hN1.2.1.1,hN1.2.1.2.1,fun g hg=>Nat.le_trans HE.out.size (hN1.2.1.2.2 g hg)⟩,hN1.2.2⟩
 have hN2:=yI hNw hM2 (fun g hg e=>by have:=hfar.1 g hg;omega) (fun g hg e=>by have:=hfar.2 g hg;omega)
 have hE2:Ext w W2:=Mod.toExt ((Ext.mod (Mod.ext HE.out hE1) (zD w.heap.size)).trans hM2 (fun k _ e=>by have:=Hb.out;unfold zD;omega))
 have f0:w1.frozen? ⟨b,0,none⟩=false:=zB 0 hA1
 have f1:w1.frozen? ⟨b,1,none⟩=false:=zB 1 hA1
 have r0:w1.cell? ⟨b,0,none⟩=some _:=zA hA1 rfl
 have r1:w1.cell? ⟨b,1,none⟩=some _:=zA hA1 rfl
 obtain ⟨k0,k1,k2,k3,k4,k5,k6,k7,k8,k9⟩:=zi4 hB1
 obtain ⟨Hfar,HW2⟩:=hJ2 hfar hW2
 clear hA1 hB1 hC1 hD1 hN1 hNw hM2 hE1 hW2 hfar hPW hSW
 go_wp2_with fail
 rw[←HW2.out]
 clear f0 f1 r0 r1 k0 k1 k2 k3 k4 k5 k6 k7 k8 k9
 refine (jS c W2).mono ?_
 rintro e w3 ⟨rfl,hE3⟩
 have hA3:=hE3.blk hA2 id
 have hB3:=hE3.blk hB2 id
 have hC3:=hE3.blk hC2 id
 have hD3:=hE3.blk hD2 id
 have hN3:=yI hN2 hE3 (fun _ _=>id) (fun _ _=>id)
 have hX3:=Mod.ext hE2 hE3
 clear hA2 hB2 hC2 hD2 hN2 hE2 hE3
 have m0:w3.cell? ⟨b,0,none⟩=some _:=zA hA3 rfl
 have m1:w3.cell? ⟨b,1,none⟩=some _:=zA hA3 rfl
 have g0:w3.cell? ⟨b+1+1,0,none⟩=some _:=zA hC3 rfl
 have g1:w3.cell? ⟨b+1+1,1,none⟩=some _:=zA hC3 rfl
 have fg0:w3.frozen? ⟨b+1+1,0,none⟩=false:=zB 0 hC3
 have fg1:w3.frozen? ⟨b+1+1,1,none⟩=false:=zB 1 hC3
 obtain ⟨q0,q1,q2,q3⟩:=cq4 hD3
 have fq0:w3.frozen? ⟨b+1+1+1,0,none⟩=false:=zB 0 hD3
 have fq1:w3.frozen? ⟨b+1+1+1,1,none⟩=false:=zB 1 hD3
 have fq2:w3.frozen? ⟨b+1+1+1,2,none⟩=false:=zB 2 hD3
 have fq3:w3.frozen? ⟨b+1+1+1,3,none⟩=false:=zB 3 hD3
 obtain ⟨HN3,HX3⟩:=hJ2 hN3 hX3
 have e1:(yX c==0)=false:=by simpa using hc
 have e2:(yX c != 0)=true:=by simpa using hc
 clear hA3 hB3 hC3 hD3 hN3 hX3 hc
 go_wp2_with fail
 have hm:Mod (fun k=>k=b+1+1∨k=b+1+1+1) w3 ((((((w3.setCell ⟨b+1+1,0,none⟩ (.slice A1 p.length c1)).setCell ⟨b+1+1,1,none⟩ (.slice A2 l.length c2)).setCell ⟨b+1+1+1,0,none⟩ (.int .i64 (yX c))).setCell ⟨b+1+1+1,1,none⟩ (.int .i64 0)).setCell ⟨b+1+1+1,2,none⟩ (.float .f64 0)).setCell ⟨b+1+1+1,3,none⟩ (.string ⟨#[]⟩)):=by
  skip
  refine Mod.setCell (Mod.setCell (Mod.setCell (Mod.setCell (Mod.setCell (Mod.setCell (Mod.refl _ _) (.inr (.inl rfl)) _) (.inr (.inl rfl)) _) (.inr (.inr rfl)) _) (.inr (.inr rfl)) _) (.inr (.inr rfl)) _) (.inr (.inr rfl)) _
 refine bodyPost_ret (v:=.tuple #[.agg #[.slice A1 p.length c1,.slice A2 l.length c2],.agg #[.int .i64 (yX c),.int .i64 0,.float .f64 0,.string ⟨#[]⟩]]) (by simp[results,Tryz.results173,go_sem,m0,m1,g0,g1,q0,q1,q2,q3]) rfl ⟨_,_,rfl,yI HN3.out hm (fun g hg e=>by have:=Hfar.out.1 g hg;omega) (fun g hg e=>by have:=Hfar.out.2 g hg;omega),?_⟩
 exact Mod.toExt ((Ext.mod HX3.out (zD w.heap.size)).trans hm (fun k _ e=>by have:=Hb.out;unfold zD;omega))
theorem s_do_bad (w:World) (T U:Nat→Prop) (pv v:Value) (p:List zJ) (l:List zR) (c:zW) (hP:Prs w U pv p) (h:Ses w T v l) (hp:p.length≤1000000) (hl:l.length≤1000000) (hc:yX c=0) (hm:jU ⟨p,l⟩=false):
  Calls Tryz.prog 173 #[.agg #[pv,v],.agg #[.int .i64 c.client,.int .i64 c.seq,.int .i64 c.cmd.kind,.string c.cmd.key,.int .i64 c.cmd.old.kind,.float .f64 c.cmd.old.num,.string c.cmd.old.text,.int .i64 c.cmd.val.kind,.float .f64 c.cmd.val.num,.string c.cmd.val.text]] w (zbX w ⟨p,l⟩ ⟨6,yO.zero⟩):=by
 obtain ⟨A,c0,rfl⟩:=h.form
 obtain ⟨A',c',rfl⟩:=hP.form
 obtain ⟨b,hb⟩:∃ b,w.heap.size=b:=⟨_,rfl⟩
 obtain ⟨W,hW⟩:∃ W,W=(((w.alloc (.cells #[.slice A' p.length c',.slice A l.length c0] 41)).alloc (.cells #[.int .i64 c.client,.int .i64 c.seq,.int .i64 c.cmd.kind,.string c.cmd.key,.int .i64 c.cmd.old.kind,.float .f64 c.cmd.old.num,.string c.cmd.old.text,.int .i64 c.cmd.val.kind,.float .f64 c.cmd.val.num,.string c.cmd.val.text] 29)).alloc (.cells #[.slice none 0 0,.slice none 0 0] 41)).alloc (.cells #[.int .i64 0,.int .i64 0,.float .f64 0,.string ⟨#[]⟩] 48):=⟨_,rfl⟩
 obtain ⟨hA,hB,hC,hD,hsz,hE⟩:=zbA w _ _ _ _ hW
 rw[hb] at hA hB hC hD hsz
 have hPW:=hP.ext hE
 have hSW:=h.ext hE
 obtain ⟨HW,Hb,HE,HA,HB,HC,HD⟩:=hJ7 hW hb hE hA hB hC hD
 clear hA hB hC hD hW hb hE
 go_enter Tryz.func173,Tryz.ntmps173
 go_wp2_with fail
 rw[←HW.out,Hb.out]
 refine (zhV W T U _ _ p l hPW hSW hp hl).mono ?_
 rintro e w1 ⟨pv1,v1,rfl,hN1,hE1⟩
 obtain ⟨A1,c1,rfl⟩:=zC hN1.1.1
 obtain ⟨A2,c2,rfl⟩:=zC hN1.2.1.1
 have hA1:=hE1.blk HA.out id
 have hB1:=hE1.blk HB.out id
 have hC1:=hE1.blk HC.out id
 have hD1:=hE1.blk HD.out id
 have hfar:(∀ g,(Value.slice A1 p.length c1).ownBlock=some g→b+4≤g)∧(∀ g,(Value.slice A2 l.length c2).ownBlock=some g→b+4≤g):=⟨fun g hg=>by have:=hN1.1.2.2 g hg;omega,fun g hg=>by have:=hN1.2.1.2.2 g hg;omega⟩
 obtain ⟨W2,hW2⟩:∃ W2,W2=(w1.setCell ⟨b,0,none⟩ (.slice A1 p.length c1)).setCell ⟨b,1,none⟩ (.slice A2 l.length c2):=⟨_,rfl⟩
 have hM2:Mod (fun k=>k=b) w1 W2:=by rw[hW2];exact zM (zM (Mod.refl _ _) _ _) _ _
 have hA2:W2.heap[b]? = some (.cells #[.slice A1 p.length c1,.slice A2 l.length c2] 41 (0,0)):=by rw[hW2];simp[World.setCell,Array.getElem?_modify,hA1]
 have hB2:=hM2.blk hB1 (by omega)
 have hC2:=hM2.blk hC1 (by omega)
 have hD2:=hM2.blk hD1 (by omega)
 have hNw:zn5 w w1 (.slice A1 p.length c1) (.slice A2 l.length c2) ⟨p,l⟩:=⟨zaQ hN1.1 HE.out.size,⟨hN1.2.1.1,hN1.2.1.2.1,fun g hg=>Nat.le_trans HE.out.size (hN1.2.1.2.2 g hg)⟩,hN1.2.2⟩
 have hN2:=yI hNw hM2 (fun g hg e=>by have:=hfar.1 g hg;omega) (fun g hg e=>by have:=hfar.2 g hg;omega)
 have hE2:Ext w W2:=Mod.toExt ((Ext.mod (Mod.ext HE.out hE1) (zD w.heap.size)).trans hM2 (fun k _ e=>by have:=Hb.out;unfold zD;omega))
 have f0:w1.frozen? ⟨b,0,none⟩=false:=zB 0 hA1
 have f1:w1.frozen? ⟨b,1,none⟩=false:=zB 1 hA1
 have r0:w1.cell? ⟨b,0,none⟩=some _:=zA hA1 rfl
 have r1:w1.cell? ⟨b,1,none⟩=some _:=zA hA1 rfl
 obtain ⟨k0,k1,k2,k3,k4,k5,k6,k7,k8,k9⟩:=zi4 hB1
 obtain ⟨Hfar,HW2⟩:=hJ2 hfar hW2
 clear hA1 hB1 hC1 hD1 hN1 hNw hM2 hE1 hW2 hfar hPW hSW
 go_wp2_with fail
 rw[←HW2.out]
 clear f0 f1 r0 r1 k0 k1 k2 k3 k4 k5 k6 k7 k8 k9
 refine (jS c W2).mono ?_
 rintro e w3 ⟨rfl,hE3⟩
 have hA3:=hE3.blk hA2 id
 have hB3:=hE3.blk hB2 id
 have hC3:=hE3.blk hC2 id
 have hD3:=hE3.blk hD2 id
 have hN3:=yI hN2 hE3 (fun _ _=>id) (fun _ _=>id)
 have hX3:=Mod.ext hE2 hE3
 clear hA2 hB2 hC2 hD2 hN2 hE2 hE3
 have m0:w3.cell? ⟨b,0,none⟩=some _:=zA hA3 rfl
 have m1:w3.cell? ⟨b,1,none⟩=some _:=zA hA3 rfl
 obtain ⟨HA3,HB3,HC3,HD3,HN3,HX3⟩:=hJ6 hA3 hB3 hC3 hD3 hN3 hX3
 clear hA3 hB3 hC3 hD3 hN3 hX3
 rw[hc]
 go_wp2_with fail
 refine (ze6 w3 _ _ _ _ p l HN3.out.1.prs HN3.out.2.1.ses).mono ?_
 rintro e w4 ⟨rfl,hE4⟩
 clear m0 m1
 have hA3:=HA3.out
 have hB3:=HB3.out
 have hC3:=HC3.out
 have hD3:=HD3.out
 have hN3:=HN3.out
 have hX3:=HX3.out
 clear HA3 HB3 HC3 HD3 HN3 HX3
 have hA4:=hE4.blk hA3 id
 have hB4:=hE4.blk hB3 id
 have hC4:=hE4.blk hC3 id
 have hD4:=hE4.blk hD3 id
 have hN4:=yI hN3 hE4 (fun _ _=>id) (fun _ _=>id)
 have hX4:=Mod.ext hX3 hE4
 clear hA3 hB3 hC3 hD3 hN3 hX3 hE4
 have m0:w4.cell? ⟨b,0,none⟩=some _:=zA hA4 rfl
 have m1:w4.cell? ⟨b,1,none⟩=some _:=zA hA4 rfl
 have g0:w4.cell? ⟨b+1+1,0,none⟩=some _:=zA hC4 rfl
 have g1:w4.cell? ⟨b+1+1,1,none⟩=some _:=zA hC4 rfl
 have fg0:w4.frozen? ⟨b+1+1,0,none⟩=false:=zB 0 hC4
 have fg1:w4.frozen? ⟨b+1+1,1,none⟩=false:=zB 1 hC4
 obtain ⟨q0,q1,q2,q3⟩:=cq4 hD4
 have fq0:w4.frozen? ⟨b+1+1+1,0,none⟩=false:=zB 0 hD4
 have fq1:w4.frozen? ⟨b+1+1+1,1,none⟩=false:=zB 1 hD4
 have fq2:w4.frozen? ⟨b+1+1+1,2,none⟩=false:=zB 2 hD4
 have fq3:w4.frozen? ⟨b+1+1+1,3,none⟩=false:=zB 3 hD4
 have hk:zfH ⟨p,l⟩=6:=by unfold zfH;rw[hm];rfl
 rw[hk]
 clear hk hm
 obtain ⟨HA4,HB4,HC4,HD4,HN4,HX4⟩:=hJ6 hA4 hB4 hC4 hD4 hN4 hX4
 clear hA4 hB4 hC4 hD4 hN4 hX4
 go_wp2_with fail
 have hm:Mod (fun k=>k=b+1+1∨k=b+1+1+1) w4 ((((((w4.setCell ⟨b+1+1,0,none⟩ (.slice A1 p.length c1)).setCell ⟨b+1+1,1,none⟩ (.slice A2 l.length c2)).setCell ⟨b+1+1+1,0,none⟩ (.int .i64 6)).setCell ⟨b+1+1+1,1,none⟩ (.int .i64 0)).setCell ⟨b+1+1+1,2,none⟩ (.float .f64 0)).setCell ⟨b+1+1+1,3,none⟩ (.string ⟨#[]⟩)):=by
  skip
  refine Mod.setCell (Mod.setCell (Mod.setCell (Mod.setCell (Mod.setCell (Mod.setCell (Mod.refl _ _) (.inr (.inl rfl)) _) (.inr (.inl rfl)) _) (.inr (.inr rfl)) _) (.inr (.inr rfl)) _) (.inr (.inr rfl)) _) (.inr (.inr rfl)) _
 refine bodyPost_ret (v:=.tuple #[.agg #[.slice A1 p.length c1,.slice A2 l.length c2],.agg #[.int .i64 6,.int .i64 0,.float .f64 0,.string ⟨#[]⟩]]) (by simp[results,Tryz.results173,go_sem,m0,m1,g0,g1,q0,q1,q2,q3]) rfl ⟨_,_,rfl,yI HN4.out hm (fun g hg e=>by have:=Hfar.out.1 g hg;omega) (fun g hg e=>by have:=Hfar.out.2 g hg;omega),?_⟩
 exact Mod.toExt ((Ext.mod HX4.out (zD w.heap.size)).trans hm (fun k _ e=>by have:=Hb.out;unfold zD;omega))
end Go.Proofs.YtjbkjhhjofeldaaGreat
