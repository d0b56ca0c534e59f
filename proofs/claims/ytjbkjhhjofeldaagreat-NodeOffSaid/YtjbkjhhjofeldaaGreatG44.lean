/-
 The contract of skerrykeep.SpoilMachine. Conditions: as each theorem names them.
-/
import Derived.Test.YtjbkjhhjofeldaaGreatH2
import Derived.Test.YtjbkjhhjofeldaaGreatG43
import Derived.Test.YtjbkjhhjofeldaaGreatG30
namespace Go.Proofs.YtjbkjhhjofeldaaGreat
set_option linter.unusedSimpArgs false
open Go.RowKit
end Go.Proofs.YtjbkjhhjofeldaaGreat
namespace Go.Proofs.YtjbkjhhjofeldaaGreat
set_option linter.unusedSimpArgs false
open Go.RowKit
end Go.Proofs.YtjbkjhhjofeldaaGreat
set_option maxRecDepth 100000
set_option maxHeartbeats 1000000
namespace Go.Proofs.YtjbkjhhjofeldaaGreat
set_option linter.unusedSimpArgs false
open Go.RowKit
def znW (p:zJ):List UInt8:=xK (zbC p.key)++zi5 p.val
def encS (s:zR):List UInt8:=yM s.client++(yM s.seq++(yM s.reply.code++zi5 s.reply.val))
def zlD (m:jK):List UInt8:=yM m.pairs.length++(m.pairs.flatMap znW++(yM m.sess.length++m.sess.flatMap encS))
def SSt (w:World) (S:Nat→Prop) (b:Nat) (bs:List UInt8):Prop:=Wr w S b bs false∧∀ k,S k→k<w.heap.size
theorem wr_mod {w w':World} {S T:Nat→Prop} {b:Nat} {bs:List UInt8} {long:Bool} (h:Wr w S b bs long) (hm:Mod T w w') (hd:∀ g,S g→¬ T g):Wr w' S b bs long:=by
 obtain ⟨v,t,hb,ho,hS,hg⟩:=h
 exact ⟨v,t,hm.blk hb (hd _ hS),zN ho hm (fun g hgg=>hd _ (hg g hgg).1),hS,hg⟩
theorem SSt.of_ext {w w':World} {S:Nat→Prop} {b:Nat} {bs:List UInt8} (h:SSt w S b bs) (hE:Ext w w'):SSt w' S b bs:=
 ⟨wr_mod h.1 hE (fun _ _=>id),fun k hk=>Nat.lt_of_lt_of_le (h.2 k hk) hE.size⟩
theorem zq2 {w w':World} {S:Nat→Prop} {b:Nat} {bs:List UInt8} (h:Wr w' (Nw S w) b bs false):∃ S1,SSt w' S1 b bs∧∀ k,S1 k→S k∨w.heap.size≤k:=
 ⟨fun k=>Nw S w k∧k<w'.heap.size,⟨h.mono (fun _ hk hS=>⟨hS,hk⟩),fun _ hk=>hk.2⟩,fun _ hk=>hk.1⟩
theorem zaI {S S1 S2:Nat→Prop} {w w1:World} (h1:∀ k,S1 k→S k∨w.heap.size≤k) (h2:∀ k,S2 k→S1 k∨w1.heap.size≤k) (hs:w.heap.size≤w1.heap.size):∀ k,S2 k→S k∨w.heap.size≤k:=fun k hk=>by
 rcases h2 k hk with h|h
 · exact h1 k h
 exact .inr (by omega)
theorem zcO {S S1:Nat→Prop} {w w1 w2:World} (h:Mod S w w1) (h':Mod S1 w1 w2) (hg:∀ k,S1 k→S k∨w.heap.size≤k):Mod S w w2:=
 h.trans h' (fun k hk hS=>by
  rcases hg k hS with h|h
  · exact h
  omega)
attribute [local go_sem high] zh9
def WO1 (w:World) (S:Nat→Prop) (b:Nat) (bs:List UInt8) (e:Ending) (w':World):Prop:=
 e=.returned (.tuple #[])∧Mod S w w'∧∃ S1,SSt w' S1 b bs∧∀ k,S1 k→S k∨w.heap.size≤k
theorem zhX (w:World) (S:Nat→Prop) (b:Nat) (bs:List UInt8) (n:Int) (h:SSt w S b bs) (hl:bs.length≤1000000000) (hn:I64 n):
  Calls Tryz.prog 246 #[.pointer (some ⟨b,0,none⟩),.int .i64 n] w (WO1 w S b (bs++yM n)):=
 (zmR w S b bs false n h.1 hl hn.1 (by have:=hn.2;omega)).mono fun _ _ ⟨h1,h2,h3⟩=>⟨h1,h3,zq2 h2⟩
theorem zq3 (w:World) (S T:Nat→Prop) (b:Nat) (bs t:List UInt8) (v:Value) (h:SSt w S b bs) (hl:bs.length≤900000000) (ht:Byt w T v t) (hd:∀ g,T g→¬ S g) (hs:t.length≤16384):
  Calls Tryz.prog 247 #[.pointer (some ⟨b,0,none⟩),v] w (WO1 w S b (bs++xK t)):=
 (zlN w S T b bs t false v h.1 hl ht hd hs).mono fun _ _ ⟨h1,h2,h3⟩=>⟨h1,h3,zq2 h2⟩
theorem w_float1 (w:World) (S:Nat→Prop) (b:Nat) (bs:List UInt8) (x:Nat) (h:SSt w S b bs) (hl:bs.length≤1000000000):
  Calls Tryz.prog 339 #[.pointer (some ⟨b,0,none⟩),.float .f64 x] w (WO1 w S b (bs++qA x)):=
 (zoF w S b bs false x h.1 hl).mono fun _ _ ⟨h1,h2,h3⟩=>⟨h1,h3,zq2 h2⟩
theorem s_wval (w:World) (S:Nat→Prop) (b:Nat) (bs:List UInt8) (v:yO) (h:SSt w S b bs) (hv:v.ok) (hb:bs.length≤800000000) (ht:v.text.size≤16384):
  Calls Tryz.prog 248 #[.pointer (some ⟨b,0,none⟩),.agg #[.int .i64 v.kind,.float .f64 v.num,.string v.text]] w (WO1 w S b (bs++zi5 v)):=by
 obtain ⟨hk,hx,htx⟩:=hv
 obtain ⟨q,hq⟩:∃ q,w.heap.size=q:=⟨_,rfl⟩
 obtain ⟨W,hW⟩:∃ W,W=w.alloc (.cells #[.int .i64 v.kind,.float .f64 v.num,.string v.text] 25):=⟨_,rfl⟩
 have hE:Ext w W:=by rw[hW];exact (Mod.refl _ w).alloc _
 have hA:W.heap[q]? = some (.cells #[.int .i64 v.kind,.float .f64 v.num,.string v.text] 25 (0,0)):=by rw[hW,←hq];exact heap_alloc_new w _
 have hqW:q<W.heap.size:=(Array.getElem?_eq_some_iff.1 hA).1
 have hSW:=h.of_ext hE
 have hnq:¬ S q:=fun e=>by have:=h.2 _ e;omega
 obtain ⟨HW,Hq,HE⟩:=hJ3 hW hq hE
 have hle:=zP v.kind
 clear hW hq hE h
 go_enter Tryz.func248,Tryz.ntmps248
 go_wp2_with fail
 rw[←HW.out,Hq.out]
 refine (zhX W S b bs v.kind hSW (by omega) hk).mono ?_
 rintro e w1 ⟨rfl,hm1,S1,hS1,hg1⟩
 have hA1:=hm1.blk hA hnq
 have hnq1:¬ S1 q:=fun e=>by rcases hg1 q e with h|h;exact hnq h;omega
 obtain ⟨a0,a1,a2⟩:=cq3 hA1
 have hqw:q<w1.heap.size:=(Array.getElem?_eq_some_iff.1 hA1).1
 obtain ⟨HS1,Hg1,Hm1⟩:=hJ3 hS1 hg1 hm1
 clear hS1 hg1 hm1 hA1 hA hSW
 by_cases e1:v.kind=1
 ·
  have d1:(v.kind==1)=true:=by simp[e1]
  have Hen:Hid (zi5 v=yM v.kind++qA v.num):=hJ (by unfold zi5;rw[if_pos e1])
  have He1:=hJ e1
  clear e1
  go_wp2_with fail
  refine (w_float1 w1 S1 b _ v.num HS1.out (by simp;omega)).mono ?_
  rintro e w2 ⟨rfl,hm2,S2,hS2,hg2⟩
  have hout:Hid (WO1 w S b (bs++zi5 v) (.returned (.tuple #[])) w2):=hJ ⟨rfl,(HE.out.mod S).self (zcO Hm1.out hm2 Hg1.out),S2,by rw[Hen.out,←List.append_assoc];exact hS2,fun k hk=>(zaI Hg1.out hg2 Hm1.out.size k hk).imp id (fun h=>Nat.le_trans HE.out.size h)⟩
  clear hm2 hS2 hg2
  go_wp2
  go_end0
  exact hout.out
 have d1:(v.kind==1)=false:=by simpa using e1
 by_cases e2:v.kind=2
 ·
  have d2:(v.kind==2)=true:=by simp[e2]
  have Hen:Hid (zi5 v=yM v.kind++xK (zbC v.text)):=hJ (by unfold zi5;rw[if_neg e1,if_pos e2])
  obtain ⟨He1,He2⟩:=hJ2 e1 e2
  clear e1 e2
  have hbe:=zoO w1 5 v.text
  have hbb:=zoP w1 5 v.text htx
  have hSt:=HS1.out.of_ext hbe
  have hdis:∀ g,w1.heap.size≤g→¬ S1 g:=fun g h1 h2=>by have h3:=HS1.out.2 g h2;omega
  have hln:(zbC v.text).length=v.text.size:=rfl
  have c2:(Lib.bytesWorld w1 5 v.text).cell? ⟨q,2,none⟩=some (.string v.text):=hbe.cell a2 id
  go_wp2_with fail
  refine (zq3 _ S1 _ b _ (zbC v.text) _ hSt (by simp;omega) hbb hdis (by omega)).mono ?_
  rintro e w2 ⟨rfl,hm2,S2,hS2,hg2⟩
  have hout:Hid (WO1 w S b (bs++zi5 v) (.returned (.tuple #[])) w2):=hJ ⟨rfl,(HE.out.mod S).self (zcO (Hm1.out.ext hbe) hm2 Hg1.out),S2,by rw[Hen.out,←List.append_assoc];exact hS2,fun k hk=>(zaI Hg1.out hg2 (Hm1.out.ext hbe).size k hk).imp id (fun h=>Nat.le_trans HE.out.size h)⟩
  clear hm2 hS2 hg2
  go_wp2
  go_end0
  exact hout.out
 have d2:(v.kind==2)=false:=by simpa using e2
 have hout:Hid (WO1 w S b (bs++zi5 v) (.returned (.tuple #[])) w1):=hJ ⟨rfl,(HE.out.mod S).self Hm1.out,S1,by unfold zi5;rw[if_neg e1,if_neg e2,List.append_nil];exact HS1.out,fun k hk=>(Hg1.out k hk).imp id (fun h=>Nat.le_trans HE.out.size h)⟩
 obtain ⟨He1,He2⟩:=hJ2 e1 e2
 clear e1 e2
 go_wp2
 go_end0
 exact hout.out
end Go.Proofs.YtjbkjhhjofeldaaGreat
set_option maxRecDepth 100000
set_option maxHeartbeats 4000000
namespace Go.Proofs.YtjbkjhhjofeldaaGreat
set_option linter.unusedSimpArgs false
open Go.RowKit
attribute [local go_sem high] zh9
theorem zkA {v:yO} (h:chk v=0):v.text.size≤32:=by
 unfold chk at h
 split at h
 · cases h
 split at h
 · cases h
 rename_i h2
 split at h
 · cases h
 rename_i h3
 by_cases hk:v.kind=2
 · have:¬ 32<v.text.size:=fun e=>h2 ⟨hk,e⟩
   omega
 have h4:zZ v.text=true:=by
  rcases he:zZ v.text with _|_
  · exact absurd (.inl ⟨hk,he⟩) h3
  rfl
 have:v.text.size=0:=by rw[(qF _).1 h4];rfl
 omega
theorem ze7 {p:zJ} (h:zaM p=true):p.key.size≤8∧p.val.text.size≤32:=by
 unfold zaM jX at h
 simp only[Bool.and_eq_true,decide_eq_true_iff,beq_iff_eq] at h
 exact ⟨h.1.1.2,zkA h.2⟩
theorem zhY {s:zR} (h:zaE s=true):s.reply.val.text.size≤32:=by
 unfold zaE at h
 simp only[Bool.and_eq_true,decide_eq_true_iff,beq_iff_eq] at h
 exact zkA h.2
theorem zmM {p:zJ} (h:zaM p=true):(znW p).length≤100:=by
 obtain ⟨h1,h2⟩:=ze7 h
 have h3:=zc2 (zbC p.key)
 have h4:(zbC p.key).length=p.key.size:=rfl
 have h5:=zlW p.val
 unfold znW
 rw[List.length_append]
 omega
theorem zmN {s:zR} (h:zaE s=true):(encS s).length≤100:=by
 have h2:=zhY h
 have h5:=zlW s.reply.val
 have:=zP s.client
 have:=zP s.seq
 have:=zP s.reply.code
 unfold encS
 simp only[List.length_append]
 omega
theorem wrnew {w:World} {b:Nat} {t:TypeId} (h:w.heap[b]? = some (.cells #[.slice none 0 0,.bool false] t (0,0))):SSt w (fun k=>k=b) b []:=
 ⟨⟨_,t,h,World.ownsRow_nil _ _ _ _,rfl,by simp[Value.ownBlock]⟩,fun k e=>by rw[e];exact (Array.getElem?_eq_some_iff.1 h).1⟩
theorem s_enc_ok (w:World) (T U:Nat→Prop) (pv v:Value) (p:List zJ) (l:List zR) (hP:Prs w U pv p) (h:Ses w T v l) (hm:jU ⟨p,l⟩=true):
  Calls Tryz.prog 155 #[.agg #[pv,v]] w fun e w'=>∃ vb,e=.returned (.tuple #[vb,.int .i64 0])∧zaN w w' vb (zlD ⟨p,l⟩)∧Ext w w':=by
 obtain ⟨A,c,rfl⟩:=h.form
 obtain ⟨A',c',rfl⟩:=hP.form
 have hm2:=hm
 unfold jU at hm2
 rw[Bool.and_eq_true] at hm2
 have hp32:p.length≤32:=zqT hm2.1
 have hl4:l.length≤4:=(zeO hm2.2).2.2
 have hpk:∀ x∈p,zaM x=true:=((xO p).1 hm2.1).2.1
 have hsk:∀ x∈l,zaE x=true:=((zaH l).1 hm2.2).1
 have HP100:Hid (∀ i,((p.take i).flatMap znW).length≤3200):=hJ (fun i=>by have:=zlX (f:=znW) (l:=p) (k:=100) i (fun x hx=>zmM (hpk x hx));omega)
 have HS100:Hid (∀ i,((l.take i).flatMap encS).length≤400):=hJ (fun i=>by have:=zlX (f:=encS) (l:=l) (k:=100) i (fun x hx=>zmN (hsk x hx));omega)
 obtain ⟨Hpk,Hsk⟩:=hJ2 hpk hsk
 clear hpk hsk hm2
 obtain ⟨b0,hb0⟩:∃ b0,w.heap.size=b0:=⟨_,rfl⟩
 obtain ⟨W,hW⟩:∃ W,W=w.alloc (.cells #[.slice A' p.length c',.slice A l.length c] 41):=⟨_,rfl⟩
 have hE:Ext w W:=by rw[hW];exact (Mod.refl _ w).alloc _
 have hA:W.heap[b0]? = some (.cells #[.slice A' p.length c',.slice A l.length c] 41 (0,0)):=by rw[hW,←hb0];exact heap_alloc_new w _
 have hPW:=hP.ext hE
 have hSW:=h.ext hE
 obtain ⟨HW,Hb0,HE,HA⟩:=hJ4 hW hb0 hE hA
 clear hW hb0 hE hA
 go_enter Tryz.func155,Tryz.ntmps155
 go_wp2_with fail
 rw[←HW.out]
 refine (ze6 W _ _ _ _ p l hPW hSW).mono ?_
 rintro e w1 ⟨rfl,hE1⟩
 have hk:zfH ⟨p,l⟩=0:=by unfold zfH;rw[hm];rfl
 rw[hk]
 obtain ⟨n,hn⟩:∃ n,p.length=n:=⟨_,rfl⟩
 obtain ⟨m,hmm⟩:∃ m,l.length=m:=⟨_,rfl⟩
 have hA1:=hE1.blk HA.out id
 have a0:w1.cell? ⟨b0,0,none⟩=some _:=zA hA1 rfl
 have a1:w1.cell? ⟨b0,1,none⟩=some _:=zA hA1 rfl
 have l0:b0<w1.heap.size:=(Array.getElem?_eq_some_iff.1 hA1).1
 obtain ⟨HE1,HA1,Hn,Hmm⟩:=hJ4 hE1 hA1 hn hmm
 clear hE1 hA1 hk hm hPW hSW hn hmm
 rw[Hb0.out]
 go_wp2_with fail
 obtain ⟨wb,hwb⟩:∃ wb,w1.heap.size=wb:=⟨_,rfl⟩
 obtain ⟨W1,hW1⟩:∃ W1,W1=w1.alloc (.cells #[.slice none 0 0,.bool false] 289):=⟨_,rfl⟩
 have hEw:Ext w1 W1:=by rw[hW1];exact (Mod.refl _ _).alloc _
 have hB:W1.heap[wb]? = some (.cells #[.slice none 0 0,.bool false] 289 (0,0)):=by rw[hW1,←hwb];exact heap_alloc_new w1 _
 have hSt:=wrnew hB
 have hXw1:=Mod.ext HE.out HE1.out
 have hXW1:Ext w W1:=Mod.ext hXw1 hEw
 have hbw:w.heap.size≤wb:=by have:=hXw1.size;omega
 have hb0w:b0<wb:=by omega
 have hA2:=hEw.blk HA1.out id
 rw[←hW1,hwb,Hn.out]
 obtain ⟨HW1,HXW1,HA2⟩:=hJ3 hW1 hXW1 hA2
 clear hW1 hwb hEw hB hXw1 hXW1 hA2 a0 a1 l0
 have hn32:n≤32:=by have:=Hn.out;omega
 have hm4:m≤4:=by have:=Hmm.out;omega
 refine (zhX W1 _ wb [] (n:Int) hSt (by simp) ⟨by omega,by omega⟩).mono ?_
 rintro e w2 ⟨rfl,hm2,S2,hS2,hg2⟩
 have hn1:b0≠wb:=by omega
 have hA3:=hm2.blk HA2.out hn1
 have a0:w2.cell? ⟨b0,0,none⟩=some _:=zA hA3 rfl
 have a1:w2.cell? ⟨b0,1,none⟩=some _:=zA hA3 rfl
 obtain ⟨HS2,Hg2,Hm2⟩:=hJ3 hS2 hg2 hm2
 clear hA3 hS2 hg2 hm2 hSt
 rw[Hn.out] at hP a0
 rw[Hmm.out] at h a1
 go_wp2
 go_loopw [22] (fun iv wr=>∃ (i:Nat) (S1:Nat→Prop),i≤n∧iv=.int .i64 i∧SSt wr S1 wb (yM n++(p.take i).flatMap znW)∧(∀ k,S1 k→k=wb∨W1.heap.size≤k)∧Mod (fun k=>k=wb) W1 wr) (fun iv _=>n-(intOf iv).toNat)
 case atStart=>exact ⟨0,S2,by omega,rfl,by simpa using HS2.out,Hg2.out,Hm2.out⟩
 obtain ⟨i,S1,hin,rfl,hS1,hg1,hm1⟩:=hrel
 have hX:Ext w wr:=Mod.toExt ((Ext.mod HXW1.out (zD w.heap.size)).trans hm1 (fun k _ e=>by unfold zD;omega))
 obtain ⟨HX,HS1,Hg1,Hm1⟩:=hJ4 hX hS1 hg1 hm1
 clear hX hS1 hg1 hm1
 by_cases hi:i<n
 ·
  obtain ⟨g,off,x,rfl,hgT,hx,hxok,hcells⟩:=hP.at hi
  have hi0:(0:Int)≤(i:Int):=by omega
  have hi1:(i:Int)<(n:Int):=by omega
  have z0:=hcells 0 _ rfl
  have z1:=hcells 1 _ rfl
  have z2:=hcells 2 _ rfl
  have z3:=hcells 3 _ rfl
  rw[Nat.add_zero] at z0
  have x0:=HX.out.cell z0 id
  have x1:=HX.out.cell z1 id
  have x2:=HX.out.cell z2 id
  have x3:=HX.out.cell z3 id
  have hgl:g<wr.heap.size:=World.block_lt_of_cell? _ _ x0
  obtain ⟨Wr2,hWr⟩:∃ Wr2,Wr2=wr.alloc (.cells #[.string x.key,.int .i64 x.val.kind,.float .f64 x.val.num,.string x.val.text] 122):=⟨_,rfl⟩
  obtain ⟨q,hq⟩:∃ q,wr.heap.size=q:=⟨_,rfl⟩
  have hEr:Ext wr Wr2:=by rw[hWr];exact (Mod.refl _ _).alloc _
  have hQ:Wr2.heap[q]? = some (.cells #[.string x.key,.int .i64 x.val.kind,.float .f64 x.val.num,.string x.val.text] 122 (0,0)):=by rw[hWr,←hq];exact heap_alloc_new wr _
  have hqS:¬ S1 q:=fun e=>by have:=HS1.out.2 q e;omega
  have hsn:=zjL (f:=znW) hx
  have hpx:=Hpk.out x (List.mem_of_getElem? hx)
  obtain ⟨Hsn,Hpx,Hxok,HWr,Hq,HEr,HQ⟩:=hJ7 hsn hpx hxok hWr hq hEr hQ
  clear hsn hpx hxok hx hcells hWr hq hEr hQ hgT
  go_wp2_with fail
  rw[←HWr.out,Hq.out]
  have hsz2:Wr2.heap.size=q+1:=by rw[HWr.out,←Hq.out];simp
  have hbe:=zoO Wr2 5 x.key
  have hbb:=zoP Wr2 5 x.key Hxok.out.1
  rw[hsz2] at hbb
  have hSb:=(HS1.out.of_ext HEr.out).of_ext hbe
  have hlen:=HP100.out i
  have hle:=zP (n:Int)
  have hks:=(ze7 Hpx.out).1
  have hkl:(zbC x.key).length=x.key.size:=rfl
  have hkt:=zc2 (zbC x.key)
  refine (zq3 _ S1 _ wb _ (zbC x.key) _ hSb (by simp only[List.length_append];omega) hbb (fun y h1 h2=>by have:=HS1.out.2 y h2;have:=Hq.out;omega) (by omega)).mono ?_
  rintro e w3 ⟨rfl,hm3,S3,hS3,hg3⟩
  have hQ3:=hm3.blk (hbe.blk HQ.out id) hqS
  have hm13:=zcO (Hm1.out.ext (HEr.out.ext hbe)) hm3 Hg1.out
  have hg13:=zaI Hg1.out hg3 (Hm1.out.ext (HEr.out.ext hbe)).size
  have q0:w3.cell? ⟨q,1,none⟩=some _:=zA hQ3 rfl
  have q1:w3.cell? ⟨q,1+1,none⟩=some _:=zA hQ3 rfl
  have q2:w3.cell? ⟨q,1+2,none⟩=some _:=zA hQ3 rfl
  obtain ⟨HS3,Hm13,Hg13⟩:=hJ3 hS3 hm13 hg13
  clear hQ3 hm3 hS3 hg3 hm13 hg13 hSb hbb hbe hsz2 x0 x1 x2 x3 z0 z1 z2 z3
  go_wp2_with fail
  refine (s_wval w3 S3 wb _ x.val HS3.out Hxok.out.2 (by simp only[List.length_append];omega) (by have:=(ze7 Hpx.out).2;omega)).mono ?_
  rintro e w4 ⟨rfl,hm4',S4,hS4,hg4⟩
  have hm14:=hJ (zcO Hm13.out hm4' Hg13.out)
  have hg14:=hJ (zaI Hg13.out hg4 Hm13.out.size)
  have hS5:Hid (SSt w4 S4 wb (yM n++(p.take (i+1)).flatMap znW)):=hJ (by
   rw[Hsn.out]
   simp only[znW,←List.append_assoc] at hS4 ⊢
   exact hS4)
  clear hm4' hS4 hg4 q0 q1 q2
  go_wp2
  exact ⟨⟨i+1,S4,by omega,by go_num,hS5.out,hg14.out,hm14.out⟩,by simp[intOf];omega⟩
 have hA4:=Hm1.out.blk HA2.out hn1
 have b0c:wr.cell? ⟨b0,0,none⟩=some _:=zA hA4 rfl
 have b1c:wr.cell? ⟨b0,1,none⟩=some _:=zA hA4 rfl
 rw[Hmm.out] at b1c
 clear hA4
 have hful:p.take i=p:=List.take_of_length_le (by rw[Hn.out];omega)
 have HS6:Hid (SSt wr S1 wb (yM n++p.flatMap znW)):=hJ (by have:=HS1.out;rw[hful] at this;exact this)
 have hlen:=HP100.out i
 rw[hful] at hlen
 clear hful
 have hle:=zP (n:Int)
 have hlm:=zP (m:Int)
 go_wp2_with fail
 refine (zhX wr S1 wb _ (m:Int) HS6.out (by simp only[List.length_append];omega) ⟨by omega,by omega⟩).mono ?_
 rintro e w5 ⟨rfl,hm5,S5,hS5,hg5⟩
 have hm15:=zcO Hm1.out hm5 Hg1.out
 have hg15:=zaI Hg1.out hg5 Hm1.out.size
 have hA5:=hm15.blk HA2.out hn1
 have d0c:w5.cell? ⟨b0,0,none⟩=some _:=zA hA5 rfl
 have d1c:w5.cell? ⟨b0,1,none⟩=some _:=zA hA5 rfl
 rw[Hmm.out] at d1c
 obtain ⟨HS5,Hm15,Hg15⟩:=hJ3 hS5 hm15 hg15
 clear hA5 hm5 hS5 hg5 hm15 hg15 b0c b1c
 go_wp2
 go_loopw [41] (fun iv wr=>∃ (i:Nat) (S1:Nat→Prop),i≤m∧iv=.int .i64 i∧SSt wr S1 wb (yM n++p.flatMap znW++yM m++(l.take i).flatMap encS)∧(∀ k,S1 k→k=wb∨W1.heap.size≤k)∧Mod (fun k=>k=wb) W1 wr) (fun iv _=>m-(intOf iv).toNat)
 case atStart=>exact ⟨0,S5,by omega,rfl,by simpa using HS5.out,Hg15.out,Hm15.out⟩
 obtain ⟨j,S6,hjn,rfl,hS6,hg6,hm6⟩:=hrel
 have hX:Ext w wr:=Mod.toExt ((Ext.mod HXW1.out (zD w.heap.size)).trans hm6 (fun k _ e=>by unfold zD;omega))
 obtain ⟨HX6,HT6,Hg6,Hm6⟩:=hJ4 hX hS6 hg6 hm6
 clear hX hS6 hg6 hm6
 have hlj:=HS100.out j
 by_cases hj:j<m
 ·
  obtain ⟨g,off,x,rfl,hgT,hx,hxok,hcells⟩:=h.at hj
  have hj0:(0:Int)≤(j:Int):=by omega
  have hj1:(j:Int)<(m:Int):=by omega
  have z0:=hcells 0 _ rfl
  have z1:=hcells 1 _ rfl
  have z2:=hcells 2 _ rfl
  have z3:=hcells 3 _ rfl
  have z4:=hcells 4 _ rfl
  have z5:=hcells 5 _ rfl
  rw[Nat.add_zero] at z0
  have x0:=HX6.out.cell z0 id
  have x1:=HX6.out.cell z1 id
  have x2:=HX6.out.cell z2 id
  have x3:=HX6.out.cell z3 id
  have x4:=HX6.out.cell z4 id
  have x5:=HX6.out.cell z5 id
  have hgl:g<wr.heap.size:=World.block_lt_of_cell? _ _ x0
  obtain ⟨Wr2,hWr⟩:∃ Wr2,Wr2=wr.alloc (.cells #[.int .i64 x.client,.int .i64 x.seq,.int .i64 x.reply.code,.int .i64 x.reply.val.kind,.float .f64 x.reply.val.num,.string x.reply.val.text] 125):=⟨_,rfl⟩
  obtain ⟨q,hq⟩:∃ q,wr.heap.size=q:=⟨_,rfl⟩
  have hEr:Ext wr Wr2:=by rw[hWr];exact (Mod.refl _ _).alloc _
  have hQ:Wr2.heap[q]? = some (.cells #[.int .i64 x.client,.int .i64 x.seq,.int .i64 x.reply.code,.int .i64 x.reply.val.kind,.float .f64 x.reply.val.num,.string x.reply.val.text] 125 (0,0)):=by rw[hWr,←hq];exact heap_alloc_new wr _
  have hqS:¬ S6 q:=fun e=>by have:=HT6.out.2 q e;omega
  have hqlt:q<Wr2.heap.size:=(Array.getElem?_eq_some_iff.1 hQ).1
  have Hsn:=hJ (zjL (f:=encS) hx)
  have Hpx:=hJ (Hsk.out x (List.mem_of_getElem? hx))
  obtain ⟨Hxok,HWr,Hq,HEr,HQ⟩:=hJ5 hxok hWr hq hEr hQ
  clear hxok hx hcells hWr hq hEr hQ hgT
  have le0:=zP x.client
  have le1:=zP x.seq
  have le2:=zP x.reply.code
  go_wp2_with fail
  rw[←HWr.out,Hq.out]
  have hmA:=Hm6.out.ext HEr.out
  refine (zhX Wr2 S6 wb _ x.client (HT6.out.of_ext HEr.out) (by simp only[List.length_append];omega) Hxok.out.1).mono ?_
  rintro e v7 ⟨rfl,hm7,S7,hS7,hg7⟩
  have hQ7:=hm7.blk HQ.out hqS
  have hq7:¬ S7 q:=fun e=>by rcases hg7 q e with h|h;exact hqS h;omega
  have ql7:q<v7.heap.size:=(Array.getElem?_eq_some_iff.1 hQ7).1
  have HM7:=hJ (zcO hmA hm7 Hg6.out)
  have HG7:=hJ (zaI Hg6.out hg7 (Mod.size hmA))
  obtain ⟨HT7,HQ7⟩:=hJ2 hS7 hQ7
  obtain ⟨q70,q71,q72,q73,q74,q75⟩:=cq6 hQ7
  clear hQ7 hm7 hS7 hg7 x0 x1 x2 x3 x4 x5 z0 z1 z2 z3 z4 z5
  go_wp2_with fail
  refine (zhX v7 S7 wb _ x.seq HT7.out (by simp only[List.length_append];omega) Hxok.out.2.1).mono ?_
  rintro e v8 ⟨rfl,hm8,S8,hS8,hg8⟩
  have hQ8:=hm8.blk HQ7.out hq7
  have hq8:¬ S8 q:=fun e=>by rcases hg8 q e with h|h;exact hq7 h;omega
  have ql8:q<v8.heap.size:=(Array.getElem?_eq_some_iff.1 hQ8).1
  have HM8:=hJ (zcO HM7.out hm8 HG7.out)
  have HG8:=hJ (zaI HG7.out hg8 (Mod.size HM7.out))
  obtain ⟨HT8,HQ8⟩:=hJ2 hS8 hQ8
  obtain ⟨q80,q81,q82,q83,q84,q85⟩:=cq6 hQ8
  clear hQ8 hm8 hS8 hg8 q70 q71 q72 q73 q74 q75
  go_wp2_with fail
  refine (zhX v8 S8 wb _ x.reply.code HT8.out (by simp only[List.length_append];omega) Hxok.out.2.2.1).mono ?_
  rintro e v9 ⟨rfl,hm9,S9,hS9,hg9⟩
  have hQ9:=hm9.blk HQ8.out hq8
  have hq9:¬ S9 q:=fun e=>by rcases hg9 q e with h|h;exact hq8 h;omega
  have ql9:q<v9.heap.size:=(Array.getElem?_eq_some_iff.1 hQ9).1
  have HM9:=hJ (zcO HM8.out hm9 HG8.out)
  have HG9:=hJ (zaI HG8.out hg9 (Mod.size HM8.out))
  obtain ⟨HT9,HQ9⟩:=hJ2 hS9 hQ9
  obtain ⟨q90,q91,q92,q93,q94,q95⟩:=cq6 hQ9
  clear hQ9 hm9 hS9 hg9 q80 q81 q82 q83 q84 q85
  go_wp2_with fail
  refine (s_wval v9 S9 wb _ x.reply.val HT9.out Hxok.out.2.2.2 (by simp only[List.length_append];omega) (by have:=zhY Hpx.out;omega)).mono ?_
  rintro e va ⟨rfl,hma,Sa,hSa,hga⟩
  have HMa:=hJ (zcO HM9.out hma HG9.out)
  have HGa:=hJ (zaI HG9.out hga HM9.out.size)
  have HTa:Hid (SSt va Sa wb (yM n++p.flatMap znW++yM m++(l.take (j+1)).flatMap encS)):=hJ (by
   rw[Hsn.out]
   simp only[encS,←List.append_assoc] at hSa ⊢
   exact hSa)
  clear hma hSa hga q90 q91 q92 q93 q94 q95
  go_wp2
  exact ⟨⟨j+1,Sa,by omega,by go_num,HTa.out,HGa.out,HMa.out⟩,by simp[intOf];omega⟩
 have hful:l.take j=l:=List.take_of_length_le (by rw[Hmm.out];omega)
 rw[hful] at hlj
 have HT7:Hid (SSt wr S6 wb (zlD ⟨p,l⟩)):=hJ (by
  have:=HT6.out
  rw[hful] at this
  unfold zlD
  simp only[Hn.out,Hmm.out,←List.append_assoc]
  exact this)
 have hlM:(zlD ⟨p,l⟩).length≤4000:=by
  unfold zlD
  simp only[Hn.out,Hmm.out,List.length_append]
  omega
 clear hful
 go_wp2_with fail
 refine (zkJ wr S6 wb _ HT7.out.1 (by omega)).mono ?_
 rintro e wz ⟨vb,rfl,hNB,hEz⟩
 have HN:Hid (zaN w wz vb (zlD ⟨p,l⟩)):=hJ ⟨hNB.1,fun g hg=>Nat.le_trans HX6.out.size (hNB.2 g hg)⟩
 have HZ:=hJ (HX6.out.ext hEz)
 clear hNB hEz
 go_wp2
 go_ret2
 exact ⟨vb,rfl,HN.out,HZ.out⟩
end Go.Proofs.YtjbkjhhjofeldaaGreat
namespace Go.Proofs.YtjbkjhhjofeldaaGreat
theorem slast (l:List zR):zp5 l:=fun W T pv v key h=>zj5 W T pv v l key h
theorem senc (m:jK) (hm:jU m=true):SEnc m (zlD m):=fun W T U pv xv hP hS=>s_enc_ok W T U pv xv m.pairs m.sess hP hS hm
theorem sdo (m:jK) (c:zW) (hm:m.pairs.length≤1000000∧m.sess.length≤1000000) (hcv:c.cmd.val.ok) {M:jK} {r:yH} (hr:zdB m c=(M,r)):SDo m c M r:=fun W T U pv xv hP hS=>by
  have h:=s_do W T U pv xv m.pairs m.sess c hP hS hm.1 hm.2 hcv
  rw[show (⟨m.pairs,m.sess⟩:jK)=m from rfl,hr] at h
  refine Calls.mono h ?_
  rintro e w' ⟨pv',v',h1,h2,h3⟩
  exact ⟨pv',v',h1,h2.1,h2.2.1,h3⟩
end Go.Proofs.YtjbkjhhjofeldaaGreat
namespace Go.Proofs.YtjbkjhhjofeldaaGreat
set_option linter.unusedSimpArgs false
set_option linter.unusedVariables false
theorem zq4 {m:jK} (h:jU m=true):(zlD m).length≤10000:=by
  unfold jU at h
  rw[Bool.and_eq_true] at h
  have hp32:m.pairs.length≤32:=((xO m.pairs).1 h.1).1
  have hl4:m.sess.length≤4:=(zeO h.2).2.2
  have h1:=zf7 (f:=znW) (l:=m.pairs) (k:=100) (fun x hx=>zmM (((xO m.pairs).1 h.1).2.1 x hx))
  have h2:=zf7 (f:=encS) (l:=m.sess) (k:=100) (fun x hx=>zmN (((zaH m.sess).1 h.2).1 x hx))
  have h3:=zP (m.pairs.length:Int)
  have h4:=zP (m.sess.length:Int)
  unfold zlD
  simp only[List.length_append]
  omega
theorem zbL {h:zX} (hr:Right h) (ho:∀ x∈h.log,x.ok) (hn:h.log.length≤17) (hs:h.snap.length≤10000):h.enc.length≤16000:=by
  have h1:=zpZ h.log (fun x hx=>⟨zgF hr.r x hx,ho x hx⟩)
  have l1:=zP h.term
  have l2:=zP h.vote
  have l3:=zP h.base
  have l4:=zP h.baseTerm
  have l5:=zP h.conf.full
  have l6:=zP h.conf.wit
  have l7:=zP h.conf.learn
  have l8:=zP h.conf.learnWit
  have l9:=zP (h.snap.length:Int)
  have l10:=zP (h.log.length:Int)
  unfold zX.enc encH encF xK encEs zY
  simp only[List.length_append,List.flatMap_cons,List.flatMap_nil,List.length_nil]
  omega
structure za3 (N:yB) (k:Nat):Prop where
  L:zaD N.r
  rd:N.rds=[]
  w:N.waits=[]
  ap:N.applied=N.r.last
  m:jU N.mach=true
  g:N.g=N.r.hard
  on:On N.dk 0
  lg:N.r.hard.log.length≤16
  sn:N.r.hard.snap.length≤10000
  la:N.r.last≤k+1
  rn:0≤N.r.round∧N.r.round<1000000
  tl:N.told.length≤k
  dn:N.done.length≤k+1
theorem za3.last0 {N:yB} {k:Nat} (h:za3 N k):0≤N.r.last∧N.r.hard.base≤N.r.last:=by
  have h1:=h.L.right.base
  have h2:=h.L.right.commit
  have h3:=h.L.right.hard.b0
  omega
theorem za3.up {N:yB} {k j:Nat} (h:za3 N k) (hk:k≤j):za3 N j:=
  ⟨h.L,h.rd,h.w,h.ap,h.m,h.g,h.on,h.lg,h.sn,by have:=h.la;omega,h.rn,by have:=h.tl;omega,by have:=h.dn;omega⟩
theorem za3.small {N:yB} {k:Nat} (h:za3 N k):N.mach.pairs.length≤1000000∧N.mach.sess.length≤1000000:=by
  have hm:=h.m
  unfold jU at hm
  rw[Bool.and_eq_true] at hm
  have h1:=((xO N.mach.pairs).1 hm.1).1
  have h2:=(zeO hm.2).2.2
  omega
def zgZ (N:yB) (c:zW) (N5:yB):Prop:=∀ (w0 w:World) (n:Nat) (V:NV),w0.heap.size≤w.heap.size→yD w0 w n V N→(N.waits=[]→V.wv=.slice none 0 0)→Calls Tryz.prog 10 #[.pointer (some ⟨n,0,none⟩),.agg #[.int .i64 c.client,.int .i64 c.seq,.int .i64 c.cmd.kind,.string c.cmd.key,.int .i64 c.cmd.old.kind,.float .f64 c.cmd.old.num,.string c.cmd.old.text,.int .i64 c.cmd.val.kind,.float .f64 c.cmd.val.num,.string c.cmd.val.text]] w (zdD w0 w n V N5)
theorem znX {t:Int} {c:zW} (h0:0≤t) (h1:t≤1099511627776) (hc:c.ok):(zT t c).ok:=by
  refine ⟨?_,?_,hc,zc1,zc1,zc1,zc1⟩
  · show -9223372036854775808≤t∧t≤9223372036854775807
    omega
  · show (-9223372036854775808:Int)≤1∧(1:Int)≤9223372036854775807
    omega
theorem zi3 {N:yB} {k:Nat} (hG:za3 N k) (hk:k≤50000) {c:zW} (hc:yX c=0) (hco:c.ok) (hck:c.cmd.kind≠1) (hls:(yJ N.mach.sess c.client).1<c.seq):
    ∃ N5,za3 N5 (k+1)∧N5.mach=(zdB N.mach c).1∧N5.told=N.told++[⟨c,(zdB N.mach c).2,N.r.last+1⟩]∧(∃ x,N5.done=N.done++[x])∧zgZ N c N5:=by
  have hL:=hG.L
  have hR:=hL.right
  have hH:=hR.hard
  have hl0:=hG.last0
  have hla:=hG.la
  have hlg:=hG.lg
  have hsn:=hG.sn
  have hlast:N.r.last=N.r.hard.base+N.r.hard.log.length:=rfl
  have hxo:(zT N.r.hard.term c).ok:=znX hH.t0 hH.t1 hco
  have hL':zaD (N.r.put (zT N.r.hard.term c)):=hL.called hc hxo (by omega)
  have hpl:=N.r.put_last (zT N.r.hard.term c)
  have hpn:(N.r.put (zT N.r.hard.term c)).hard.log.length=N.r.hard.log.length+1:=by
    show (N.r.hard.log++[zT N.r.hard.term c]).length=_
    rw[List.length_append];rfl
  obtain ⟨D1,hs1,hO1⟩:=zgO (g:=N.g) hG.on hL'.right.hard (by rw[hG.g];exact Int.le_refl _) (by rw[hG.g];exact Int.le_refl _) (zbL hL'.right.hard hL'.oks (by omega) hsn)
  rcases hd:zdB N.mach c with ⟨M,rp⟩
  have hM:jU M=true:=by
    have:=znQ c hG.m
    rw[hd] at this
    exact this
  have hdo:SDo N.mach c M rp:=sdo N.mach c hG.small hco.2.2.2.2.2 hd
  have htl:(N.told++[(⟨c,rp,N.r.last+1⟩:yU)]).length≤k+1:=by
    rw[List.length_append];have:=hG.tl;simp;omega
  have hdn:(N.done++[(⟨N.r.last+1,zT N.r.hard.term c⟩:qD)]).length≤k+1+1:=by
    rw[List.length_append];have:=hG.dn;simp;omega
  have hput:∀ N5,(∀ (w0:World) (n:Nat),zdP w0 n (fun _=>True) 98 #[.pointer (some ⟨n,0,none⟩)] (N.called c M rp D1) N5)→zgZ N c N5:=fun N5 hC w0 w n V h0 hN hwv=>
    zp7 w0 w n V N c M rp D1 N5 h0 hN hwv hL hL' hG.rd hG.w hc hco hxo hck (slast _) hls (by omega) ⟨hl0.1,by omega⟩ hs1 (by rw[hG.g];omega) (by omega) (by rw[hG.ap];exact hl0.2) hG.ap hdo ⟨by have:=hG.tl;omega,by have:=hG.dn;omega⟩ (hC w0 n)
  by_cases hb:N.r.last+1≤N.r.hard.base+16
  · exact ⟨N.called c M rp D1,⟨hL',rfl,rfl,hpl.symm,hM,rfl,hO1,by
      show (N.r.put (zT N.r.hard.term c)).hard.log.length≤16
      omega,hsn,by
      show (N.r.put (zT N.r.hard.term c)).last≤_
      omega,hG.rn,htl,hdn⟩,rfl,rfl,⟨_,rfl⟩,hput _ (fun w0 n=>za7 w0 n _ hb ⟨hH.b0,hH.b1⟩)⟩
  · have hbl:=zq4 hM
    have hbc:(N.r.put (zT N.r.hard.term c)).hard.base<(N.r.put (zT N.r.hard.term c)).commit:=by
      show N.r.hard.base<N.r.last+1
      omega
    have hc2:(N.r.put (zT N.r.hard.term c)).commit≤1099511627776:=by
      show N.r.last+1≤_
      omega
    have hL2:=hL'.snapped (b:=zlD M) (by omega) hbc hc2
    have hsl:((N.r.put (zT N.r.hard.term c)).snapped (zlD M)).last=N.r.last+1:=by
      show N.r.last+1+(([]:List zO).length:Int)=_
      simp
    obtain ⟨D2,hs2,hO2⟩:=zgO (g:=(N.r.put (zT N.r.hard.term c)).hard) hO1 hL2.right.hard (Int.le_refl _) (Int.le_of_lt hbc) (zbL hL2.right.hard hL2.oks (by show ([]:List zO).length≤17;simp) hbl)
    refine ⟨{ N.called c M rp D1 with r:=(N.r.put (zT N.r.hard.term c)).snapped (zlD M),g:=(N.r.put (zT N.r.hard.term c)).hard.snapped (N.r.put (zT N.r.hard.term c)).commit (zlD M),dk:=D2 },⟨hL2,rfl,rfl,hsl.symm,hM,rfl,hO2,by show ([]:List zO).length≤16;simp,hbl,by
      show ((N.r.put (zT N.r.hard.term c)).snapped (zlD M)).last≤_
      omega,hG.rn,htl,hdn⟩,rfl,rfl,⟨_,rfl⟩,hput _ (fun w0 n=>?_)⟩
    exact ziT w0 n (N.called c M rp D1) (zlD M) D2 hL' rfl (by show N.r.hard.base+16<N.r.last+1;omega) rfl hc2 (senc M hM) (by omega) (by
      show (N.r.put (zT N.r.hard.term c)).hard.log.length≤_
      omega) hs2
end Go.Proofs.YtjbkjhhjofeldaaGreat
