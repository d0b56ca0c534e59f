/-
 Contracts of skerrylaw07.Heavy and skerrykeep.SpoilMachine. Conditions: as each theorem names them.
-/
import Derived.Test.YtjbkjhhjofeldaaGreatG40
namespace Go.Proofs.YtjbkjhhjofeldaaGreat
set_option linter.unusedSimpArgs false
open Go.RowKit
set_option maxRecDepth 100000
set_option maxHeartbeats 8000000
theorem tkK15 {P:Program} {ops:Array Oper} {Q:Exit→Act→World→Prop} {md:Region.Mode} {S:World→Prop} {oi:Oper} {fuel:Nat} {listed:Array Bool} {a:Act} {w:World} (i d:Nat) {v:Value} (hS:S w)
  (h:wpAnyH P md ops Q S fuel (listed.setIfInBounds i true) (a.put (some d) v) w) (hi:ops[i]? = some oi:=by rfl) (hd:oi.dst=some d:=by rfl) (hy:∀ w,S w→(execOp a.eval oi).run P w=.ok (.value v) w:=by rintro W' ⟨_,_,_,_,_,_,_,_,_,_,_,_,_,_,_⟩;go_simp;try with_reducible rfl)
  (hs:Region.noSelect ops=true:=by kernel_rfl) (hf:Region.free md ops listed i=true:=by kernel_rfl) (hr:(Region.ready md ops listed).contains i=true:=by kernel_rfl)
  (hw:Region.wanted oi (yielded ops a.tmps)=true:=by kernel_rfl) (hQ:∀ c a w,Q (.panic c) (a.put (some d) v) w→Q (.panic c) a w:=by exact fun _ _ _ h=>h):wpAnyH P md ops Q S (fuel+1) listed a w:=
 tkH i (some d) hi hd v hS hy h hs hf hr hw hQ
def zdT (a b:zR):Bool:=a.client==b.client&&a.seq==b.seq&&ze4 a.reply b.reply
def eqM (a b:jK):Bool:=ziW a.pairs b.pairs&&eqL zdT a.sess b.sess
theorem eqM_no1 {a b:jK} (h:ziW a.pairs b.pairs=false):eqM a b=false:=by unfold eqM;rw[h];rfl
theorem zi2 {a b:jK} (h:eqL zdT a.sess b.sess=false):eqM a b=false:=by unfold eqM;rw[h,Bool.and_false]
theorem zq0 {a b:jK} (h:ziW a.pairs b.pairs=true) (h2:eqL zdT a.sess b.sess=true):eqM a b=true:=by unfold eqM;rw[h,h2];rfl
theorem zq1 (w:World) (T U T' U':Nat→Prop) (pa pb va vb:Value) (p q:List zJ) (la lb:List zR) (hP:Prs w U pa p) (hQ:Prs w U' pb q) (ha:Ses w T va la) (hb:Ses w T' vb lb):
  Calls Tryz.prog 18 #[.agg #[pa,va],.agg #[pb,vb]] w fun e w'=>e=.returned (.bool (eqM ⟨p,la⟩ ⟨q,lb⟩))∧Ext w w':=by
 obtain ⟨n,hn⟩:∃ n,la.length=n:=⟨_,rfl⟩
 obtain ⟨m,hm⟩:∃ m,lb.length=m:=⟨_,rfl⟩
 obtain ⟨A,c,rfl⟩:=ha.form
 obtain ⟨A',c',rfl⟩:=hb.form
 have hla:=ha.1.le
 have hlb:=hb.1.le
 unfold maxLen at hla hlb
 rw[hn] at ha hla ⊢
 rw[hm] at hb hlb ⊢
 obtain ⟨Hn,Hm⟩:=hJ2 hn hm
 clear hn hm
 obtain ⟨b,hb0⟩:∃ b,w.heap.size=b:=⟨_,rfl⟩
 obtain ⟨W,hW⟩:∃ W,W=(w.alloc (.cells #[pa,.slice A n c] 41)).alloc (.cells #[pb,.slice A' m c'] 41):=⟨_,rfl⟩
 obtain ⟨hA,hB,hsz⟩:=xY w (.cells #[pa,.slice A n c] 41) (.cells #[pb,.slice A' m c'] 41)
 rw[←hW,hb0] at hA hB hsz
 have hE:Ext w W:=by rw[hW];exact ((Mod.refl _ w).alloc _).alloc _
 obtain ⟨HW,Hb⟩:=hJ2 hW hb0
 have hP2:=hP.ext hE
 have hQ2:=hQ.ext hE
 have a0:W.cell? ⟨b,0,none⟩=some _:=zA (cs:=[pa,.slice A n c]) hA rfl
 have b0:W.cell? ⟨b+1,0,none⟩=some _:=zA (cs:=[pb,.slice A' m c']) hB rfl
 have a1:W.cell? ⟨b,1,none⟩=some (.slice A n c):=zA (cs:=[pa,.slice A n c]) hA rfl
 have b1:W.cell? ⟨b+1,1,none⟩=some (.slice A' m c'):=zA (cs:=[pb,.slice A' m c']) hB rfl
 clear hA hB hW hb0 hsz
 go_enter Tryz.func18,Tryz.ntmps18
 go_wp2_with fail
 rw[←HW.out,Hb.out]
 refine (k_pairs W U U' pa pb p q hP2 hQ2).mono ?_
 rintro e w1 ⟨rfl,hE1⟩
 have hE2:=Mod.ext hE hE1
 have m1:=hE1.cell a1 id
 have m2:=hE1.cell b1 id
 have ha1:=ha.ext hE2
 have hb1:=hb.ext hE2
 have HE:=hJ hE2
 clear a0 b0 a1 b1 hP2 hQ2 hE hE1 hE2 ha hb hP hQ
 rcases hp:ziW p q with _|_
 ·
  have Hf:Hid (eqM ⟨p,la⟩ ⟨q,lb⟩=false):=hJ (eqM_no1 hp)
  go_wp2
  go_ret
  exact ⟨yC Hf.out.symm,HE.out⟩
 have Hp:=hJ hp
 clear hp
 by_cases hnm:n=m
 case neg=>
  have hnb:((n:Int) != (m:Int))=true:=by simp;omega
  have Hf:Hid (eqM ⟨p,la⟩ ⟨q,lb⟩=false):=hJ (zi2 (zoZ (by rw[Hn.out,Hm.out];exact hnm)))
  go_wp2
  go_ret
  exact ⟨yC Hf.out.symm,HE.out⟩
 subst hnm
 have hnb:((n:Int) != (n:Int))=false:=by simp
 go_wp2
 go_loopw [5] (fun iv wr=>∃ i:Nat,i≤n∧iv=.int .i64 i∧Ext w1 wr∧∀ j<i,∀ x y,la[j]? = some x→lb[j]? = some y→zdT x y=true) (fun iv _=>n-(intOf iv).toNat)
 case atStart=>exact ⟨0,by omega,rfl,Mod.refl _ w1,fun j hj=>by omega⟩
 obtain ⟨i,hin,rfl,hE,hs⟩:=hrel
 have Hs:=hJ hs
 have ha2:=ha1.ext hE
 have hb2:=hb1.ext hE
 have n1:=hE.cell m1 id
 have n2:=hE.cell m2 id
 clear hs
 by_cases hi:i<n
 ·
  obtain ⟨g,off,x,rfl,hgT,hx,hxok,hcells⟩:=ha2.at hi
  obtain ⟨g',off',y,rfl,hgT',hy,hyok,hcells'⟩:=hb2.at hi
  have hi0:(0:Int)≤(i:Int):=by omega
  have hi1:(i:Int)<(n:Int):=by omega
  have x0:=hcells 0 _ rfl
  have x1:=hcells 1 _ rfl
  have x2:=hcells 2 _ rfl
  have x3:=hcells 3 _ rfl
  have x4:=hcells 4 _ rfl
  have x5:=hcells 5 _ rfl
  have y0:=hcells' 0 _ rfl
  have y1:=hcells' 1 _ rfl
  have y2:=hcells' 2 _ rfl
  have y3:=hcells' 3 _ rfl
  have y4:=hcells' 4 _ rfl
  have y5:=hcells' 5 _ rfl
  rw[Nat.add_zero] at x0 y0
  obtain ⟨Hx,Hy⟩:=hJ2 hx hy
  clear hcells hcells' hx hy ha2 hb2 hxok hyok ha1 hb1
  go_wp2_with fail
  rcases hk:(x.client==y.client) with _|_
  ·
   have Hf:Hid (eqM ⟨p,la⟩ ⟨q,lb⟩=false):=hJ (zi2 (zjO Hx.out Hy.out (by unfold zdT;rw[hk];rfl)))
   have hk':(x.client != y.client)=true:=by simpa using hk
   refine wp_region_held_drew (S:=(fun W'=>Ext w1 W'∧W'.cell? ⟨b,1,none⟩=some (.slice (some ⟨g,off,none⟩) n c)∧W'.cell? ⟨b+1,1,none⟩=some (.slice (some ⟨g',off',none⟩) n c')∧W'.cell? ⟨g,off+i*6,none⟩=some (.int .i64 x.client)∧W'.cell? ⟨g,off+i*6+1,none⟩=some (.int .i64 x.seq)∧W'.cell? ⟨g,off+i*6+2,none⟩=some (.int .i64 x.reply.code)∧W'.cell? ⟨g,off+i*6+3,none⟩=some (.int .i64 x.reply.val.kind)∧W'.cell? ⟨g,off+i*6+4,none⟩=some (.float .f64 x.reply.val.num)∧W'.cell? ⟨g,off+i*6+5,none⟩=some (.string x.reply.val.text)∧W'.cell? ⟨g',off'+i*6,none⟩=some (.int .i64 y.client)∧W'.cell? ⟨g',off'+i*6+1,none⟩=some (.int .i64 y.seq)∧W'.cell? ⟨g',off'+i*6+2,none⟩=some (.int .i64 y.reply.code)∧W'.cell? ⟨g',off'+i*6+3,none⟩=some (.int .i64 y.reply.val.kind)∧W'.cell? ⟨g',off'+i*6+4,none⟩=some (.float .f64 y.reply.val.num)∧W'.cell? ⟨g',off'+i*6+5,none⟩=some (.string y.reply.val.text))) (by kernel_rfl) ⟨hE.drew,n1,n2,x0,x1,x2,x3,x4,x5,y0,y1,y2,y3,y4,y5⟩ (fun hS=>?_)
   refine tkK15 0 28 hS ?_
   simp only[pL]
   refine tkK15 1 29 hS ?_
   simp only[pL]
   refine tkK15 2 30 hS ?_
   simp only[pL]
   refine tkK15 3 31 hS ?_
   simp only[pL]
   refine tkK15 4 32 hS ?_
   simp only[pL]
   refine tkK15 5 33 hS ?_
   simp only[pL]
   refine tkK15 6 34 hS ?_
   simp only[pL]
   refine tkK15 7 35 hS ?_
   simp only[pL]
   refine tkK15 8 36 hS ?_
   simp only[pL]
   refine tkK15 9 37 hS ?_
   simp only[pL]
   refine tkK15 10 38 hS ?_
   simp only[pL]
   refine tkK15 11 39 hS ?_
   simp only[pL]
   refine tkK15 12 40 hS ?_
   simp only[pL]
   refine tkK15 13 41 hS ?_
   simp only[pL]
   refine tuK 14 42 hS ?_
   simp only[pL]
   refine tuK 15 43 hS ?_
   simp only[pL]
   refine tuK 16 44 hS ?_
   simp only[pL]
   refine tuK 17 45 hS ?_
   simp only[pL]
   refine tuK 18 46 hS ?_
   simp only[pL]
   refine tuK 19 47 hS ?_
   simp only[pL]
   refine tuK 20 48 hS ?_
   simp only[pL]
   refine tuK 21 49 hS ?_
   simp only[pL]
   refine tuK 22 50 hS ?_
   simp only[pL]
   refine tuK 23 51 hS ?_
   simp only[pL]
   refine tuK 24 52 hS ?_
   simp only[pL]
   refine tuK 25 53 hS ?_
   simp only[pL]
   refine tuK 26 54 hS ?_
   simp only[pL]
   refine tkK15 27 55 hS ?_
   simp only[pL]
   refine tkK15 28 56 hS ?_
   simp only[pL]
   refine tuK 29 57 hS ?_
   simp only[pL]
   refine tuK 30 58 hS ?_
   simp only[pL]
   refine tuK 31 59 hS ?_
   simp only[pL]
   refine tuK 32 60 hS ?_
   simp only[pL]
   refine tuK 33 61 hS ?_
   simp only[pL]
   refine tuK 34 62 hS ?_
   simp only[pL]
   refine tuK 35 63 hS ?_
   simp only[pL]
   refine tuK 36 64 hS ?_
   simp only[pL]
   refine tuK 37 65 hS ?_
   simp only[pL]
   refine tuK 38 66 hS ?_
   simp only[pL]
   refine tuK 39 67 hS ?_
   simp only[pL]
   refine tuK 40 68 hS ?_
   simp only[pL]
   refine tuK 41 69 hS ?_
   simp only[pL]
   refine tuK 42 70 hS ?_
   simp only[pL]
   refine tkK15 43 71 hS ?_
   simp only[pL]
   refine wpAnyH_done (by kernel_rfl) ?_ _
   go_wp2
   go_ret
   exact ⟨yC Hf.out.symm,Mod.ext HE.out hS.1⟩
  have hk':(x.client != y.client)=false:=by simpa using hk
  rcases hk2:(x.seq==y.seq) with _|_
  ·
   have Hf:Hid (eqM ⟨p,la⟩ ⟨q,lb⟩=false):=hJ (zi2 (zjO Hx.out Hy.out (by unfold zdT;rw[hk2];simp)))
   have hk2':(x.seq != y.seq)=true:=by simpa using hk2
   refine wp_region_held_drew (S:=(fun W'=>Ext w1 W'∧W'.cell? ⟨b,1,none⟩=some (.slice (some ⟨g,off,none⟩) n c)∧W'.cell? ⟨b+1,1,none⟩=some (.slice (some ⟨g',off',none⟩) n c')∧W'.cell? ⟨g,off+i*6,none⟩=some (.int .i64 x.client)∧W'.cell? ⟨g,off+i*6+1,none⟩=some (.int .i64 x.seq)∧W'.cell? ⟨g,off+i*6+2,none⟩=some (.int .i64 x.reply.code)∧W'.cell? ⟨g,off+i*6+3,none⟩=some (.int .i64 x.reply.val.kind)∧W'.cell? ⟨g,off+i*6+4,none⟩=some (.float .f64 x.reply.val.num)∧W'.cell? ⟨g,off+i*6+5,none⟩=some (.string x.reply.val.text)∧W'.cell? ⟨g',off'+i*6,none⟩=some (.int .i64 y.client)∧W'.cell? ⟨g',off'+i*6+1,none⟩=some (.int .i64 y.seq)∧W'.cell? ⟨g',off'+i*6+2,none⟩=some (.int .i64 y.reply.code)∧W'.cell? ⟨g',off'+i*6+3,none⟩=some (.int .i64 y.reply.val.kind)∧W'.cell? ⟨g',off'+i*6+4,none⟩=some (.float .f64 y.reply.val.num)∧W'.cell? ⟨g',off'+i*6+5,none⟩=some (.string y.reply.val.text))) (by kernel_rfl) ⟨hE.drew,n1,n2,x0,x1,x2,x3,x4,x5,y0,y1,y2,y3,y4,y5⟩ (fun hS=>?_)
   refine tkK15 0 28 hS ?_
   simp only[pL]
   refine tkK15 1 29 hS ?_
   simp only[pL]
   refine tkK15 2 30 hS ?_
   simp only[pL]
   refine tkK15 3 31 hS ?_
   simp only[pL]
   refine tkK15 4 32 hS ?_
   simp only[pL]
   refine tkK15 5 33 hS ?_
   simp only[pL]
   refine tkK15 6 34 hS ?_
   simp only[pL]
   refine tkK15 7 35 hS ?_
   simp only[pL]
   refine tkK15 8 36 hS ?_
   simp only[pL]
   refine tkK15 9 37 hS ?_
   simp only[pL]
   refine tkK15 10 38 hS ?_
   simp only[pL]
   refine tkK15 11 39 hS ?_
   simp only[pL]
   refine tkK15 12 40 hS ?_
   simp only[pL]
   refine tkK15 13 41 hS ?_
   simp only[pL]
   refine tkK15 14 42 hS ?_
   simp only[pL]
   refine tkK15 15 43 hS ?_
   simp only[pL]
   refine tkK15 16 44 hS ?_
   simp only[pL]
   refine tkK15 17 45 hS ?_
   simp only[pL]
   refine tkK15 18 46 hS ?_
   simp only[pL]
   refine tkK15 19 47 hS ?_
   simp only[pL]
   refine tkK15 20 48 hS ?_
   simp only[pL]
   refine tkK15 21 49 hS ?_
   simp only[pL]
   refine tkK15 22 50 hS ?_
   simp only[pL]
   refine tkK15 23 51 hS ?_
   simp only[pL]
   refine tkK15 24 52 hS ?_
   simp only[pL]
   refine tkK15 25 53 hS ?_
   simp only[pL]
   refine tkK15 26 54 hS ?_
   simp only[pL]
   refine tkK15 27 55 hS ?_
   simp only[pL]
   refine tkK15 28 56 hS ?_
   simp only[pL]
   refine tuK 29 57 hS ?_
   simp only[pL]
   refine tuK 30 58 hS ?_
   simp only[pL]
   refine tuK 31 59 hS ?_
   simp only[pL]
   refine tuK 32 60 hS ?_
   simp only[pL]
   refine tuK 33 61 hS ?_
   simp only[pL]
   refine tuK 34 62 hS ?_
   simp only[pL]
   refine tuK 35 63 hS ?_
   simp only[pL]
   refine tuK 36 64 hS ?_
   simp only[pL]
   refine tuK 37 65 hS ?_
   simp only[pL]
   refine tuK 38 66 hS ?_
   simp only[pL]
   refine tuK 39 67 hS ?_
   simp only[pL]
   refine tuK 40 68 hS ?_
   simp only[pL]
   refine tuK 41 69 hS ?_
   simp only[pL]
   refine tuK 42 70 hS ?_
   simp only[pL]
   refine tkK15 43 71 hS ?_
   simp only[pL]
   refine wpAnyH_done (by kernel_rfl) ?_ _
   go_wp2
   go_ret
   exact ⟨yC Hf.out.symm,Mod.ext HE.out hS.1⟩
  have hk2':(x.seq != y.seq)=false:=by simpa using hk2
  rcases hq:ze4 x.reply y.reply with _|_
  ·
   have Hf:Hid (eqM ⟨p,la⟩ ⟨q,lb⟩=false):=hJ (zi2 (zjO Hx.out Hy.out (by unfold zdT;rw[hk,hk2,hq];rfl)))
   refine wp_region_held_drew (S:=(fun W'=>Ext w1 W'∧W'.cell? ⟨b,1,none⟩=some (.slice (some ⟨g,off,none⟩) n c)∧W'.cell? ⟨b+1,1,none⟩=some (.slice (some ⟨g',off',none⟩) n c')∧W'.cell? ⟨g,off+i*6,none⟩=some (.int .i64 x.client)∧W'.cell? ⟨g,off+i*6+1,none⟩=some (.int .i64 x.seq)∧W'.cell? ⟨g,off+i*6+2,none⟩=some (.int .i64 x.reply.code)∧W'.cell? ⟨g,off+i*6+3,none⟩=some (.int .i64 x.reply.val.kind)∧W'.cell? ⟨g,off+i*6+4,none⟩=some (.float .f64 x.reply.val.num)∧W'.cell? ⟨g,off+i*6+5,none⟩=some (.string x.reply.val.text)∧W'.cell? ⟨g',off'+i*6,none⟩=some (.int .i64 y.client)∧W'.cell? ⟨g',off'+i*6+1,none⟩=some (.int .i64 y.seq)∧W'.cell? ⟨g',off'+i*6+2,none⟩=some (.int .i64 y.reply.code)∧W'.cell? ⟨g',off'+i*6+3,none⟩=some (.int .i64 y.reply.val.kind)∧W'.cell? ⟨g',off'+i*6+4,none⟩=some (.float .f64 y.reply.val.num)∧W'.cell? ⟨g',off'+i*6+5,none⟩=some (.string y.reply.val.text))) (by kernel_rfl) ⟨hE.drew,n1,n2,x0,x1,x2,x3,x4,x5,y0,y1,y2,y3,y4,y5⟩ (fun hS=>?_)
   refine tkK15 0 28 hS ?_
   simp only[pL]
   refine tkK15 1 29 hS ?_
   simp only[pL]
   refine tkK15 2 30 hS ?_
   simp only[pL]
   refine tkK15 3 31 hS ?_
   simp only[pL]
   refine tkK15 4 32 hS ?_
   simp only[pL]
   refine tkK15 5 33 hS ?_
   simp only[pL]
   refine tkK15 6 34 hS ?_
   simp only[pL]
   refine tkK15 7 35 hS ?_
   simp only[pL]
   refine tkK15 8 36 hS ?_
   simp only[pL]
   refine tkK15 9 37 hS ?_
   simp only[pL]
   refine tkK15 10 38 hS ?_
   simp only[pL]
   refine tkK15 11 39 hS ?_
   simp only[pL]
   refine tkK15 12 40 hS ?_
   simp only[pL]
   refine tkK15 13 41 hS ?_
   simp only[pL]
   refine tkK15 14 42 hS ?_
   simp only[pL]
   refine tkK15 15 43 hS ?_
   simp only[pL]
   refine tkK15 16 44 hS ?_
   simp only[pL]
   refine tkK15 17 45 hS ?_
   simp only[pL]
   refine tkK15 18 46 hS ?_
   simp only[pL]
   refine tkK15 19 47 hS ?_
   simp only[pL]
   refine tkK15 20 48 hS ?_
   simp only[pL]
   refine tkK15 21 49 hS ?_
   simp only[pL]
   refine tkK15 22 50 hS ?_
   simp only[pL]
   refine tkK15 23 51 hS ?_
   simp only[pL]
   refine tkK15 24 52 hS ?_
   simp only[pL]
   refine tkK15 25 53 hS ?_
   simp only[pL]
   refine tkK15 26 54 hS ?_
   simp only[pL]
   refine tkK15 27 55 hS ?_
   simp only[pL]
   refine tkK15 28 56 hS ?_
   simp only[pL]
   refine tkK15 29 57 hS ?_
   simp only[pL]
   refine tkK15 30 58 hS ?_
   simp only[pL]
   refine tkK15 31 59 hS ?_
   simp only[pL]
   refine tkK15 32 60 hS ?_
   simp only[pL]
   refine tkK15 33 61 hS ?_
   simp only[pL]
   refine tkK15 34 62 hS ?_
   simp only[pL]
   refine tkK15 35 63 hS ?_
   simp only[pL]
   refine tkK15 36 64 hS ?_
   simp only[pL]
   refine tkK15 37 65 hS ?_
   simp only[pL]
   refine tkK15 38 66 hS ?_
   simp only[pL]
   refine tkK15 39 67 hS ?_
   simp only[pL]
   refine tkK15 40 68 hS ?_
   simp only[pL]
   refine zaJ 41 rfl (fun K hK=>?_)
   go_simp
   go_wp2_with fail
   refine (zk7 x.reply y.reply _).mono ?_
   rintro e w2 ⟨rfl,hE1⟩
   rw[hq]
   have hX:=(⟨Mod.ext hS.1 hE1,hE1.cell hS.2.1 id,hE1.cell hS.2.2.1 id,hE1.cell hS.2.2.2.1 id,hE1.cell hS.2.2.2.2.1 id,hE1.cell hS.2.2.2.2.2.1 id,hE1.cell hS.2.2.2.2.2.2.1 id,hE1.cell hS.2.2.2.2.2.2.2.1 id,hE1.cell hS.2.2.2.2.2.2.2.2.1 id,hE1.cell hS.2.2.2.2.2.2.2.2.2.1 id,hE1.cell hS.2.2.2.2.2.2.2.2.2.2.1 id,hE1.cell hS.2.2.2.2.2.2.2.2.2.2.2.1 id,hE1.cell hS.2.2.2.2.2.2.2.2.2.2.2.2.1 id,hE1.cell hS.2.2.2.2.2.2.2.2.2.2.2.2.2.1 id,hE1.cell hS.2.2.2.2.2.2.2.2.2.2.2.2.2.2 id⟩:Ext w1 w2∧_∧_∧_∧_∧_∧_∧_∧_∧_∧_∧_∧_∧_∧_)
   go_simp
   refine hK.out _ _ hX (fun hS=>?_)
   clear hK K
   refine tkK15 42 70 hS ?_
   simp only[pL]
   refine tkK15 43 71 hS ?_
   simp only[pL]
   refine wpAnyH_done (by kernel_rfl) ?_ _
   go_wp2
   go_ret
   exact ⟨yC Hf.out.symm,Mod.ext HE.out hS.1⟩
  have Hq:Hid (zdT x y=true):=hJ (by unfold zdT;rw[hk,hk2,hq];rfl)
  refine wp_region_held_drew (S:=(fun W'=>Ext w1 W'∧W'.cell? ⟨b,1,none⟩=some (.slice (some ⟨g,off,none⟩) n c)∧W'.cell? ⟨b+1,1,none⟩=some (.slice (some ⟨g',off',none⟩) n c')∧W'.cell? ⟨g,off+i*6,none⟩=some (.int .i64 x.client)∧W'.cell? ⟨g,off+i*6+1,none⟩=some (.int .i64 x.seq)∧W'.cell? ⟨g,off+i*6+2,none⟩=some (.int .i64 x.reply.code)∧W'.cell? ⟨g,off+i*6+3,none⟩=some (.int .i64 x.reply.val.kind)∧W'.cell? ⟨g,off+i*6+4,none⟩=some (.float .f64 x.reply.val.num)∧W'.cell? ⟨g,off+i*6+5,none⟩=some (.string x.reply.val.text)∧W'.cell? ⟨g',off'+i*6,none⟩=some (.int .i64 y.client)∧W'.cell? ⟨g',off'+i*6+1,none⟩=some (.int .i64 y.seq)∧W'.cell? ⟨g',off'+i*6+2,none⟩=some (.int .i64 y.reply.code)∧W'.cell? ⟨g',off'+i*6+3,none⟩=some (.int .i64 y.reply.val.kind)∧W'.cell? ⟨g',off'+i*6+4,none⟩=some (.float .f64 y.reply.val.num)∧W'.cell? ⟨g',off'+i*6+5,none⟩=some (.string y.reply.val.text))) (by kernel_rfl) ⟨hE.drew,n1,n2,x0,x1,x2,x3,x4,x5,y0,y1,y2,y3,y4,y5⟩ (fun hS=>?_)
  refine tkK15 0 28 hS ?_
  simp only[pL]
  refine tkK15 1 29 hS ?_
  simp only[pL]
  refine tkK15 2 30 hS ?_
  simp only[pL]
  refine tkK15 3 31 hS ?_
  simp only[pL]
  refine tkK15 4 32 hS ?_
  simp only[pL]
  refine tkK15 5 33 hS ?_
  simp only[pL]
  refine tkK15 6 34 hS ?_
  simp only[pL]
  refine tkK15 7 35 hS ?_
  simp only[pL]
  refine tkK15 8 36 hS ?_
  simp only[pL]
  refine tkK15 9 37 hS ?_
  simp only[pL]
  refine tkK15 10 38 hS ?_
  simp only[pL]
  refine tkK15 11 39 hS ?_
  simp only[pL]
  refine tkK15 12 40 hS ?_
  simp only[pL]
  refine tkK15 13 41 hS ?_
  simp only[pL]
  refine tkK15 14 42 hS ?_
  simp only[pL]
  refine tkK15 15 43 hS ?_
  simp only[pL]
  refine tkK15 16 44 hS ?_
  simp only[pL]
  refine tkK15 17 45 hS ?_
  simp only[pL]
  refine tkK15 18 46 hS ?_
  simp only[pL]
  refine tkK15 19 47 hS ?_
  simp only[pL]
  refine tkK15 20 48 hS ?_
  simp only[pL]
  refine tkK15 21 49 hS ?_
  simp only[pL]
  refine tkK15 22 50 hS ?_
  simp only[pL]
  refine tkK15 23 51 hS ?_
  simp only[pL]
  refine tkK15 24 52 hS ?_
  simp only[pL]
  refine tkK15 25 53 hS ?_
  simp only[pL]
  refine tkK15 26 54 hS ?_
  simp only[pL]
  refine tkK15 27 55 hS ?_
  simp only[pL]
  refine tkK15 28 56 hS ?_
  simp only[pL]
  refine tkK15 29 57 hS ?_
  simp only[pL]
  refine tkK15 30 58 hS ?_
  simp only[pL]
  refine tkK15 31 59 hS ?_
  simp only[pL]
  refine tkK15 32 60 hS ?_
  simp only[pL]
  refine tkK15 33 61 hS ?_
  simp only[pL]
  refine tkK15 34 62 hS ?_
  simp only[pL]
  refine tkK15 35 63 hS ?_
  simp only[pL]
  refine tkK15 36 64 hS ?_
  simp only[pL]
  refine tkK15 37 65 hS ?_
  simp only[pL]
  refine tkK15 38 66 hS ?_
  simp only[pL]
  refine tkK15 39 67 hS ?_
  simp only[pL]
  refine tkK15 40 68 hS ?_
  simp only[pL]
  refine zaJ 41 rfl (fun K hK=>?_)
  go_simp
  go_wp2_with fail
  refine (zk7 x.reply y.reply _).mono ?_
  rintro e w2 ⟨rfl,hE1⟩
  rw[hq]
  have hX:=(⟨Mod.ext hS.1 hE1,hE1.cell hS.2.1 id,hE1.cell hS.2.2.1 id,hE1.cell hS.2.2.2.1 id,hE1.cell hS.2.2.2.2.1 id,hE1.cell hS.2.2.2.2.2.1 id,hE1.cell hS.2.2.2.2.2.2.1 id,hE1.cell hS.2.2.2.2.2.2.2.1 id,hE1.cell hS.2.2.2.2.2.2.2.2.1 id,hE1.cell hS.2.2.2.2.2.2.2.2.2.1 id,hE1.cell hS.2.2.2.2.2.2.2.2.2.2.1 id,hE1.cell hS.2.2.2.2.2.2.2.2.2.2.2.1 id,hE1.cell hS.2.2.2.2.2.2.2.2.2.2.2.2.1 id,hE1.cell hS.2.2.2.2.2.2.2.2.2.2.2.2.2.1 id,hE1.cell hS.2.2.2.2.2.2.2.2.2.2.2.2.2.2 id⟩:Ext w1 w2∧_∧_∧_∧_∧_∧_∧_∧_∧_∧_∧_∧_∧_∧_)
  go_simp
  refine hK.out _ _ hX (fun hS=>?_)
  clear hK K
  refine tkK15 42 70 hS ?_
  simp only[pL]
  refine tkK15 43 71 hS ?_
  simp only[pL]
  refine wpAnyH_done (by kernel_rfl) ?_ _
  go_wp2
  exact ⟨⟨i+1,by omega,by go_num,hS.1,zl2 Hs.out Hx.out Hy.out Hq.out⟩,by simp[intOf];omega⟩
 have Hf:Hid (eqM ⟨p,la⟩ ⟨q,lb⟩=true):=hJ (zq0 Hp.out (zo0 (n:=n) (fun j hj=>Hs.out j (by omega)) Hn.out Hm.out))
 go_wp2
 go_ret
 exact ⟨yC Hf.out.symm,Mod.ext HE.out hE⟩
end Go.Proofs.YtjbkjhhjofeldaaGreat
