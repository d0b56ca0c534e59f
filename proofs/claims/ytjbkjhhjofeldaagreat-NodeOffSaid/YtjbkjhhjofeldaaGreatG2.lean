/-
 What the calls of pack.Writer do: contracts. Conditions: as each theorem names them.
-/
import Derived.Test.YtjbkjhhjofeldaaGreatRows
import Derived.Test.YtjbkjhhjofeldaaGreatG1
import Derived.Deep.RegionHeld3
import Derived.Deep.RegionLaw
import Derived.Deep.QuietTactic
import Derived.BigQuiet
set_option maxRecDepth 100000
set_option maxHeartbeats 400000
namespace Go.Proofs.YtjbkjhhjofeldaaGreat
open Go.RowKit
theorem zdV:(Tryz.prog.info? 5).map (fun i=>(i.zero,i.size,i.bytes))=some (some (.int .u8 0),1,1):=by kernel_rfl
def Wr (w:World) (S:Nat→Prop) (b:Nat) (bs:List UInt8) (long:Bool):Prop:=
 ∃ v t,w.heap[b]? = some (.cells #[v,.bool long] t (0,0))∧w.ownsRow 0 5 1 v bs.length (bs.map B)∧S b∧∀ g,v.ownBlock=some g→S g∧g≠b
abbrev Nw (S:Nat→Prop) (w:World):Nat→Prop:=fun k=>S k∨w.heap.size≤k
theorem Sl.one (w:World) (u:Value) (e:TypeId):Sl (w.alloc (.cells #[u] e)) (fun g=>w.heap.size≤g) 1 (.slice (some ⟨w.heap.size,0,none⟩) 1 1) 1 [u]:=
 ⟨rfl,_,_,rfl,Nat.le_refl _,by simp[maxLen],fun _=>⟨_,_,rfl,Nat.le_refl _,fun j u' hu=>by
  rcases j with _|j
  · simp at hu;subst hu;simp
  simp at hu⟩⟩
theorem zlM {w wa w1:World} {S:Nat→Prop} {b n:Nat} {v v':Value} {t:TypeId} {long:Bool} {xs:List UInt8}
  (ha:Ext w wa) (hb:w.heap[b]? = some (.cells #[v,.bool long] t (0,0))) (hS:S b) (hg:∀ g,v.ownBlock=some g→S g∧g≠b)
  {zs:List Value} (he:zs=xs.map B) (ho:w1.ownsRow 0 5 1 v' n zs) (hgr:wa.grownBy w1 v.ownBlock) {N:Nat} (hat:v'.ownBlock=v.ownBlock∨v'.ownBlock=some N) (hN:w.heap.size≤N):
  w1.cell? ⟨b,0,none⟩=some v∧w1.frozen? ⟨b,0,none⟩=false∧Wr (w1.setCell ⟨b,0,none⟩ v') (Nw S w) b xs long∧Mod S w (w1.setCell ⟨b,0,none⟩ v'):=by
 subst he
 obtain rfl:n=xs.length:=by simpa using ho.1.symm
 have hlt:b<w.heap.size:=(Array.getElem?_eq_some_iff.1 hb).1
 have hba:=ha.blk hb id
 have hb1:w1.heap[b]? = some (.cells #[v,.bool long] t (0,0)):=(hgr.block b (by have:=ha.size;omega) (fun e=>(hg b e.symm).2 rfl)).trans hba
 have hm:Mod S w w1:=(Mod.mono ha (fun _ _ h=>h.elim)).grown hgr (fun k hk=>.inr (hg k hk).1)
 have hne:∀ g,v'.ownBlock=some g→Nw S w g∧g≠b:=by
  intro g hgg
  rcases hat with e|e
  · rw[e] at hgg;exact ⟨.inl (hg g hgg).1,(hg g hgg).2⟩
  rw[e] at hgg
  injection hgg with hgg
  exact ⟨.inr (by omega),by omega⟩
 refine ⟨by simp[World.cell?,hb1],by simp[World.frozen?,hb1],⟨v',t,?_,?_,.inl hS,hne⟩,hm.setCell (.inr hS) v'⟩
 · simp[World.setCell,Array.getElem?_modify,hb1]
 exact zN ho ((Mod.refl (fun k=>k=b) w1).setCell (p:=⟨b,0,none⟩) (.inr rfl) v') (fun g h1 h2=>(hne g h1).2 h2)
theorem zeU {w:World} {b:Nat} {v x:Value} {t:TypeId} (hb:w.heap[b]? = some (.cells #[v,x] t (0,0))):w.cell? ⟨b,0,none⟩=some v∧w.cell? ⟨b,1,none⟩=some x∧w.frozen? ⟨b,0,none⟩=false∧w.frozen? ⟨b,1,none⟩=false:=by
 simp[World.cell?,World.frozen?,hb]
theorem Wr.nw0 {w w0:World} {S:Nat→Prop} {b:Nat} {bs:List UInt8} {long:Bool} (h:Wr w S b bs long):Wr w (Nw S w0) b bs long:=by
 obtain ⟨v,t,hb,ho,hS,hg⟩:=h
 exact ⟨v,t,hb,ho,.inl hS,fun g hgg=>⟨.inl (hg g hgg).1,(hg g hgg).2⟩⟩
theorem Wr.mono {w:World} {S T:Nat→Prop} {b:Nat} {bs:List UInt8} {long:Bool} (h:Wr w S b bs long) (hk:∀ k,k<w.heap.size→S k→T k):Wr w T b bs long:=by
 obtain ⟨v,t,hb,ho,hS,hg⟩:=h
 refine ⟨v,t,hb,ho,hk _ (Array.getElem?_eq_some_iff.1 hb).1 hS,fun g hgg=>⟨hk _ (ho.lt g hgg).2 (hg g hgg).1,(hg g hgg).2⟩⟩
theorem Wr.nw {w w1 w':World} {S:Nat→Prop} {b:Nat} {bs:List UInt8} {long:Bool} (h:Wr w' (Nw (Nw S w) w1) b bs long) (hs:w.heap.size≤w1.heap.size):Wr w' (Nw S w) b bs long:=
 h.mono fun k _ h=>by
  rcases h with h|h
  · exact h
  exact .inr (by omega)
theorem zmR (w:World) (S:Nat→Prop) (b:Nat) (bs:List UInt8) (long:Bool) (n:Int) (h:Wr w S b bs long) (hl:bs.length≤1000000000)
  (h0 : -9223372036854775808≤n) (h1:n≤9223372036854775807):
  Calls Tryz.prog 246 #[.pointer (some ⟨b,0,none⟩),.int .i64 n] w fun e w'=>
   e=.returned (.tuple #[])∧Wr w' (Nw S w) b (bs++yM n) long∧Mod S w w':=by
 have hz:=zig_bits n h0 h1
 have Hzl:=hJ (zig_lt h0 h1)
 have hlen:=zP n
 obtain ⟨H0,H1⟩:=hJ2 h0 h1
 clear h0 h1
 obtain ⟨i0,hi,hz0,hz1,hz2⟩:=info_parts zdV
 go_enter Tryz.func246,Tryz.ntmps246
 go_wp2
 go_loopw [4] (fun zv wr=>∃ (z f:Nat) (pre:List UInt8),zv=.int .u64 z∧z<128 ^ (f+1)∧z<18446744073709551616∧yM n=pre++uvF f z∧Wr wr (Nw S w) b (bs++pre) long∧Mod S w wr) (fun zv _=>(intOf zv).toNat)
 case atStart=>exact ⟨zig n,9,[],rfl,by have:=Hzl.out;omega,Hzl.out,rfl,by simpa using h.nw0,Mod.refl _ _⟩
 obtain ⟨z,f,pre,rfl,hzf,hzz,henc,⟨v,t,hb,hown,hS,hg⟩,hm⟩:=hrel
 have hlp:pre.length≤10:=by have:=congrArg List.length henc;simp at this;omega
 obtain ⟨hc0,_,hf0,_⟩:=zeU hb
 obtain ⟨Hb,Henc,Hlen,Hzf,Hzz⟩:=hJ5 hb henc hlen hzf hzz
 clear hb henc hlen hz hzf hzz
 have hlen2:(bs++pre).length≤1000000010:=by simp;omega
 by_cases hz:128≤z
 ·
  go_wp2_with (at_builtin;refine xB _ rfl _ _ 58 rfl 5 i0 _ 1 1 Tryz.underlying58 hi hz0 hz1 hz2 rfl (by omega) v (bs++pre).length ((bs++pre).map B) rfl (hown.alloc _) _ _ 1 _ rfl (Sl.one wr _ _) (by simp[Value.oneCell']) (by simp only[maxLen];omega) (by omega) ?_)
  intro v' w1 ho hgr hat
  obtain ⟨A1,c1,rfl⟩:=zC ho
  obtain ⟨f,rfl⟩:∃ f',f=f'+1:=⟨f-1,by
   have:=Hzf.out
   rcases f with _|f
   · omega
   omega⟩
  obtain ⟨h1,h2,h3,h4⟩:=zlM (xs:=bs++(pre++[UInt8.ofNat (z % 128+128)])) ((Mod.refl _ wr).alloc _) Hb.out hS hg (by rw[or128];simp) ho hgr hat (by omega)
  have hstep:pre++uvF (f+1) z=(pre++[UInt8.ofNat (z % 128+128)])++uvF f (z / 128):=by
   rw[uvF,if_neg (by omega)];simp
  have Hs:=hJ hstep
  clear hstep
  go_wp2
  go_roundw
  case rel=>exact ⟨z / 128,f,_,by go_num,by have:=Hzf.out;omega,by have:=Hzz.out;omega,Henc.out.trans Hs.out,(h3.nw hm.size),hm.trans h4 (fun _ _ h=>h.elim id (fun h=>by omega))⟩
  case measure=>simp[intOf];omega
 go_wp2_with (at_builtin;refine xB _ rfl _ _ 58 rfl 5 i0 _ 1 1 Tryz.underlying58 hi hz0 hz1 hz2 rfl (by omega) v (bs++pre).length ((bs++pre).map B) rfl (hown.alloc _) _ _ 1 _ rfl (Sl.one wr _ _) (by simp[Value.oneCell']) (by simp only[maxLen];omega) (by omega) ?_)
 intro v' w1 ho hgr hat
 obtain ⟨A1,c1,rfl⟩:=zC ho
 obtain ⟨h1,h2,h3,h4⟩:=zlM (xs:=bs++(pre++[UInt8.ofNat z])) ((Mod.refl _ wr).alloc _) Hb.out hS hg (by rw[low8 z (by omega)];simp) ho hgr hat (by omega)
 have hstep:pre++uvF f z=pre++[UInt8.ofNat z]:=by
  rcases f with _|f
  · rfl
  rw[uvF,if_pos (by omega)]
 have Hs:=hJ (Henc.out.trans hstep)
 clear hstep
 go_wp2
 go_end0
 exact ⟨rfl,by rw[Hs.out];exact h3.nw hm.size,hm.trans h4 (fun _ _ h=>h.elim id (fun h=>by omega))⟩
attribute [local go_sem] yN xT
theorem zoF (w:World) (S:Nat→Prop) (b:Nat) (bs:List UInt8) (long:Bool) (x:Nat) (h:Wr w S b bs long) (hl:bs.length≤1000000000):
  Calls Tryz.prog 339 #[.pointer (some ⟨b,0,none⟩),.float .f64 x] w fun e w'=>
   e=.returned (.tuple #[])∧Wr w' (Nw S w) b (bs++qA x) long∧Mod S w w':=by
 unfold qA
 obtain ⟨i0,hi,hz0,hz1,hz2⟩:=info_parts zdV
 go_enter Tryz.func339,Tryz.ntmps339
 go_wp2_with (go_at_call 338;refine (zb0 _ _).mono ?_;rintro e w' ⟨rfl,rfl⟩)
 go_loopw [5] (fun kv wr=>∃ (k:Nat) (pre:List UInt8),k≤8∧kv=.int .i64 ((k:Int)-1)∧hib 8 (xS x)=pre++hib k (xS x)∧Wr wr (Nw S w) b (bs++pre) long∧Mod S w wr) (fun kv _=>(intOf kv+1).toNat)
 case atStart=>exact ⟨8,[],by omega,rfl,rfl,by simpa using h.nw0,Mod.refl _ _⟩
 obtain ⟨k,pre,hk,rfl,henc,⟨v,t,hb,hown,hS,hg⟩,hm⟩:=hrel
 have hlp:pre.length≤8:=by have:=congrArg List.length henc;simp[hib] at this;omega
 obtain ⟨hc0,_,hf0,_⟩:=zeU hb
 obtain ⟨Hb,Henc⟩:=hJ2 hb henc
 clear hb henc
 obtain ⟨n,hn⟩:∃ n,(bs++pre).length=n:=⟨_,rfl⟩
 have hlen2:n≤1000000010:=by rw[←hn];simp;omega
 rw[hn] at hown
 have Hn:=hJ hn
 clear hn
 rcases k with _|k
 ·
  have Hf:Hid (hib 8 (xS x)=pre):=hJ (by rw[Henc.out,hib];simp)
  have HW:Wr wr (Nw S w) b (bs++pre) long:=⟨v,t,Hb.out,by rw[Hn.out];exact hown,hS,hg⟩
  go_wp2
  go_end0
  exact ⟨rfl,by rw[Hf.out];exact HW,hm⟩
 rw[show (((k+1:Nat):Int)-1)=(k:Int) from by omega]
 have hblt:b<wr.heap.size:=World.block_lt_of_cell? _ _ hc0
 have hsh:=fun W=>run_shr8 (P:=Tryz.prog) (xS x) k (by omega) W
 go_wp2_with fail
 go_region_law
  ((refine zbN _ rfl _ _ 58 rfl 5 i0 _ 1 1 Tryz.underlying58 hi hz0 hz1 hz2 rfl (by omega) v n ((bs++pre).map B) rfl ((hown.alloc _).drew) _ _ 1 _ rfl ((Sl.one wr _ _).drew) (by simp[Value.oneCell']) (by simp only[maxLen];omega) (by omega) ?_
    intro v' w1 ho hgr hat
    obtain ⟨A1,c1,rfl⟩:=zC ho
    obtain ⟨h1,h2,h3,h4⟩:=zlM (xs:=bs++(pre++[UInt8.ofNat (xS x / 256 ^ k % 256)])) (((Mod.refl _ wr).alloc _).drew) Hb.out hS hg (by rw[low8w];simp) ho hgr hat (by simp)))
 all_goals go_wp2
 all_goals exact ⟨⟨k,_,by omega,rfl,by rw[Henc.out,hib];simp,h3.nw hm.size,hm.trans h4 (fun _ _ h=>h.elim id (fun h=>by omega))⟩,by simp[intOf] <;> omega⟩
theorem Sl.form {w:World} {T:Nat→Prop} {k n:Nat} {v:Value} {xs:List Value} (h:Sl w T k v n xs):∃ A c,v=.slice A n c:=by
 obtain ⟨_,A,c,rfl,_⟩:=h;exact ⟨A,c,rfl⟩
theorem zlN (w:World) (S T:Nat→Prop) (b:Nat) (bs t:List UInt8) (long:Bool) (v:Value) (h:Wr w S b bs long) (hl:bs.length≤900000000)
  (ht:Byt w T v t) (hd:∀ g,T g→¬ S g) (hs:t.length≤16384):
  Calls Tryz.prog 247 #[.pointer (some ⟨b,0,none⟩),v] w fun e w'=>
   e=.returned (.tuple #[])∧Wr w' (Nw S w) b (bs++xK t) long∧Mod S w w':=by
 obtain ⟨i0,hi,hz0,hz1,hz2⟩:=info_parts zdV
 obtain ⟨n,hn⟩:∃ n,t.length=n:=⟨_,rfl⟩
 have hlen:=zP t.length
 have Hen:Hid (xK t=yM n++t):=hJ (by unfold xK;rw[hn])
 have hel:(yM n).length≤10:=zP n
 unfold Byt at ht
 rw[hn] at ht hs
 have Hn:=hJ hn
 clear hn hlen
 obtain ⟨A,c,rfl⟩:=ht.form
 go_enter Tryz.func247,Tryz.ntmps247
 go_wp2_with fail
 refine (zmR w S b bs long n h (by omega) (by omega) (by omega)).mono ?_
 rintro e w1 ⟨rfl,hW,hm⟩
 have ht1:=ht.mod hm hd
 obtain ⟨v0,tt,hb,hown,hS,hg⟩:=hW
 obtain ⟨m,hmm⟩:∃ m,(bs++yM n).length=m:=⟨_,rfl⟩
 have hml:m≤1000000000:=by rw[←hmm];simp;omega
 rw[hmm] at hown
 obtain ⟨hc0,_,hf0,_⟩:=zeU hb
 obtain ⟨Hb,Hmm⟩:=hJ2 hb hmm
 clear hb hmm
 go_wp2_with (at_builtin;refine xB _ rfl _ _ 58 rfl 5 i0 _ 1 1 Tryz.underlying58 hi hz0 hz1 hz2 rfl (by omega) v0 m ((bs++yM n).map B) rfl hown T _ n (t.map B) rfl ht1 (zn8 t) (by simp only[maxLen];omega) (by omega) ?_)
 intro v' w2 ho hgr hat
 obtain ⟨A1,c1,rfl⟩:=zC ho
 obtain ⟨h1,h2,h3,h4⟩:=zlM (xs:=bs++xK t) (Mod.refl _ w1) Hb.out hS hg (by rw[Hen.out];simp) ho hgr hat (by omega)
 go_wp2
 go_end0
 exact ⟨rfl,h3.nw hm.size,hm.trans h4 (fun _ _ h=>h.elim id (fun h=>by omega))⟩
theorem zdW (w:World) (S T:Nat→Prop) (b:Nat) (bs t:List UInt8) (long:Bool) (v:Value) (h:Wr w S b bs long)
  (ht:Byt w T v t) (hs:16384<t.length):
  Calls Tryz.prog 247 #[.pointer (some ⟨b,0,none⟩),v] w fun e w'=>
   e=.returned (.tuple #[])∧Wr w' (Nw S w) b bs true∧Mod S w w':=by
 obtain ⟨n,hn⟩:∃ n,t.length=n:=⟨_,rfl⟩
 unfold Byt at ht
 rw[hn] at ht hs
 clear hn
 obtain ⟨A,c,rfl⟩:=ht.form
 obtain ⟨v0,tt,hb,hown,hS,hg⟩:=h
 obtain ⟨_,hc1,_,hf1⟩:=zeU hb
 have h3:Wr (w.setCell ⟨b,1,none⟩ (.bool true)) (Nw S w) b bs true:=by
  refine ⟨v0,tt,?_,?_,.inl hS,fun g h=>⟨.inl (hg g h).1,(hg g h).2⟩⟩
  · simp[World.setCell,Array.getElem?_modify,hb]
  exact zN hown ((Mod.refl (fun k=>k=b) w).setCell (p:=⟨b,1,none⟩) (.inr rfl) _) (fun g h1 h2=>(hg g h1).2 h2)
 have h4:Mod S w (w.setCell ⟨b,1,none⟩ (.bool true)):=(Mod.refl S w).setCell (p:=⟨b,1,none⟩) (.inr hS) _
 clear hb
 go_enter Tryz.func247,Tryz.ntmps247
 go_wp2
 exact bodyPost_ret (v:=.tuple #[]) (results_none rfl _ _ _) rfl ⟨rfl,h3,h4⟩
theorem zi9 (w:World) (S:Nat→Prop) (b:Nat) (bs:List UInt8) (h:Wr w S b bs true):
  Calls Tryz.prog 249 #[.pointer (some ⟨b,0,none⟩)] w fun e w'=>
   e=.returned (.tuple #[.slice none 0 0,.int .i64 2])∧w=w':=by
 obtain ⟨v0,tt,hb,hown,hS,hg⟩:=h
 obtain ⟨_,hc1,_,hf1⟩:=zeU hb
 clear hb
 go_enter Tryz.func249,Tryz.ntmps249
 go_wp2
 go_ret2
 exact ⟨rfl,rfl⟩
def zaN (w w':World) (v:Value) (bs:List UInt8):Prop:=
 w'.ownsRow 0 5 1 v bs.length (bs.map B)∧∀ g,v.ownBlock=some g→w.heap.size≤g
theorem zkJ (w:World) (S:Nat→Prop) (b:Nat) (bs:List UInt8) (h:Wr w S b bs false) (hl:bs.length≤1000000000):
  Calls Tryz.prog 249 #[.pointer (some ⟨b,0,none⟩)] w fun e w'=>
   ∃ v,e=.returned (.tuple #[v,.int .i64 0])∧zaN w w' v bs∧Ext w w':=by
 obtain ⟨i0,hi,hz0,hz1,hz2⟩:=info_parts zdV
 obtain ⟨v0,tt,hb,hown,hS,hg⟩:=h
 obtain ⟨hc0,hc1,_,hf1⟩:=zeU hb
 have hlt:b<w.heap.size:=World.block_lt_of_cell? _ _ hc0
 obtain ⟨n,hn⟩:∃ n,bs.length=n:=⟨_,rfl⟩
 rw[hn] at hl hown
 have Hn:=hJ hn
 clear hb hn
 go_enter Tryz.func249,Tryz.ntmps249
 go_wp2_with (at_builtin;refine xB _ rfl _ _ 58 rfl 5 i0 _ 1 1 Tryz.underlying58 hi hz0 hz1 hz2 rfl (by omega) _ 0 [] rfl (World.ownsRow_made w #[] 0 (Nat.zero_le _) (Nat.zero_le _) rfl) (fun _=>True) v0 n (bs.map B) rfl ((Sl.of_own hown (fun _ _=>trivial)).alloc _) (zn8 bs) (by simp only[maxLen];omega) (by omega) ?_)
 intro v' w1 ho hgr hat
 have hE:Ext w w1:=(Mod.alloc (Mod.refl _ w) _).grown hgr (by simp[Value.ownBlock])
 have hN:zaN w w1 v' bs:=by
  refine ⟨by rw[Hn.out];simpa using ho,fun g hgg=>?_⟩
  rcases hat with e|e <;> rw[e] at hgg <;> simp[Value.ownBlock] at hgg <;> omega
 go_wp2
 go_ret2
 exact ⟨v',rfl,hN,hE⟩
theorem Wr.since {w w':World} {N b:Nat} {bs:List UInt8} {long:Bool} (h:Wr w' (Nw (zD N) w) b bs long) (hN:N≤w.heap.size):Wr w' (zD N) b bs long:=
 h.mono fun _ _ h=>h.elim id (fun h=>Nat.le_trans hN h)
theorem zaN.sl {w w':World} {v:Value} {bs:List UInt8} (h:zaN w w' v bs):Byt w' (zD w.heap.size) v bs:=Sl.of_own h.1 h.2
end Go.Proofs.YtjbkjhhjofeldaaGreat
namespace Go.Proofs.YtjbkjhhjofeldaaGreat
open Go.RowKit
theorem Wr.mod {w w':World} {S T:Nat→Prop} {b:Nat} {bs:List UInt8} {long:Bool} (h:Wr w S b bs long) (hm:Mod T w w') (hd:∀ g,S g→¬ T g):Wr w' S b bs long:=by
 obtain ⟨v,t,hb,ho,hS,hg⟩:=h
 exact ⟨v,t,hm.blk hb (hd b hS),zN ho hm (fun g h=>hd g (hg g h).1),hS,hg⟩
theorem cellB {w:World} {T:Nat→Prop} {A:Option Addr} {n c:Nat} {l:List UInt8} (hs:Sl w T 1 (.slice A n c) n (l.map B)) {i:Nat} (hi:i<n):
  ∃ g off x,A=some ⟨g,off,none⟩∧l[i]? = some x∧w.cell? ⟨g,off+i,none⟩=some (.int .u8 (x.toNat:Int)):=by
 obtain ⟨hl,A',c',e,hn,hc,hx⟩:=hs
 injection e with e1 _ e3;subst e1;subst e3
 obtain ⟨g,off,rfl,hT,hcell⟩:=hx (by omega)
 have hli:i<l.length:=by simp at hl;omega
 exact ⟨g,off,l[i],rfl,List.getElem?_eq_getElem hli,hcell i _ (by simp[List.getElem?_eq_getElem hli,B])⟩
attribute [local go_sem] yN xT
end Go.Proofs.YtjbkjhhjofeldaaGreat
namespace Go.Proofs.YtjbkjhhjofeldaaGreat
theorem zcZ:∀ k x,(hib k x).length=k
 | 0,_=>rfl
 | k+1,x=>by simp[hib,zcZ k x]
end Go.Proofs.YtjbkjhhjofeldaaGreat
namespace Go.Proofs.YtjbkjhhjofeldaaGreat
set_option linter.unusedSimpArgs false
def zc0 (s:Nat):Nat:=if s % 2=1 then (s / 2) ^^^ 3988292384 else s / 2
def tabN:Nat→Nat→Nat
 | 0,s=>s
 | k+1,s=>tabN k (zc0 s)
def tabE (i:Nat):Nat:=tabN 8 i
def zcE (s:Nat) (c:UInt8):Nat:=tabE ((s % 256) ^^^ c.toNat) ^^^ (s / 256)
def zbV (s:Nat) (b:List UInt8):Nat:=b.foldl zcE s
def zkK (a p:List UInt8):Nat:=4294967295-zbV (zbV 4294967295 a) p
theorem zhD {s:Nat} (h:s<4294967296):zc0 s<4294967296:=by
 unfold zc0
 split
 · exact Nat.xor_lt_two_pow (n:=32) (by omega) (by decide)
 omega
theorem zkL:∀ (k s:Nat),s<4294967296→tabN k s<4294967296
 | 0,_,h=>h
 | k+1,_,h=>zkL k _ (zhD h)
theorem zhE {s:Nat} (c:UInt8) (h:s<4294967296):zcE s c<4294967296:=by
 unfold zcE
 have hx:(s % 256) ^^^ c.toNat<256:=Nat.xor_lt_two_pow (n:=8) (by omega) c.toNat_lt
 exact Nat.xor_lt_two_pow (n:=32) (zkL 8 _ (by omega)) (by omega)
theorem zeV:∀ (b:List UInt8) (s:Nat),s<4294967296→zbV s b<4294967296
 | [],_,h=>h
 | c :: b,_,h=>zeV b _ (zhE c h)
theorem crcOf_lt (a p:List UInt8):zkK a p<4294967296:=by unfold zkK;omega
def yP (p:List UInt8):List UInt8:=157 :: (hib 4 p.length++(hib 4 (zkK (hib 4 p.length) p)++p))
theorem jY (p:List UInt8):(yP p).length=9+p.length:=by
 simp[yP,zcZ]
 omega
end Go.Proofs.YtjbkjhhjofeldaaGreat
