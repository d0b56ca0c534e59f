/-
  Plain words for memory, used by all later texts: frames ('only these blocks have turned'), slices that read as lists, bytes.
-/
import Derived.WalkKit
import Derived.WalkSpells
import Derived.WalkLawsBesides
import Derived.Maps.AppendAt
import Derived.Deep.AppendLies
import Derived.Lib.Hide
import Derived.Deep.RegionHeld3
import Derived.Laws.CopyRow
import Derived.Laws.Cells
namespace Go.Proofs.YtjbkjhhjofeldaaGreat
open Go.RowKit
theorem hJ {p:Prop} (h:p):Hid p:=Lib.hid h
abbrev zH:List Value:=[.int .i64 0,.int .i64 0,.int .i64 0,.int .i64 0,.int .i64 0,.int .i64 0,.int .i64 0,.int .i64 0,.slice none 0 0,.slice none 0 0]
abbrev zE:List Value:=[.int .i64 0,.int .i64 0,.int .i64 0,.int .i64 0,.int .i64 0,.string ⟨#[]⟩,.int .i64 0,.float .f64 0,.string ⟨#[]⟩,.int .i64 0,.float .f64 0,.string ⟨#[]⟩,.int .i64 0,.int .i64 0,.int .i64 0,.int .i64 0]
theorem hJ2 {p0 p1:Prop} (h0:p0) (h1:p1):Hid p0∧Hid p1:=⟨Lib.hid h0,Lib.hid h1⟩
theorem hJ3 {p0 p1 p2:Prop} (h0:p0) (h1:p1) (h2:p2):Hid p0∧Hid p1∧Hid p2:=⟨Lib.hid h0,Lib.hid h1,Lib.hid h2⟩
theorem hJ4 {p0 p1 p2 p3:Prop} (h0:p0) (h1:p1) (h2:p2) (h3:p3):Hid p0∧Hid p1∧Hid p2∧Hid p3:=⟨Lib.hid h0,Lib.hid h1,Lib.hid h2,Lib.hid h3⟩
theorem hJ5 {p0 p1 p2 p3 p4:Prop} (h0:p0) (h1:p1) (h2:p2) (h3:p3) (h4:p4):Hid p0∧Hid p1∧Hid p2∧Hid p3∧Hid p4:=⟨Lib.hid h0,Lib.hid h1,Lib.hid h2,Lib.hid h3,Lib.hid h4⟩
theorem hJ6 {p0 p1 p2 p3 p4 p5:Prop} (h0:p0) (h1:p1) (h2:p2) (h3:p3) (h4:p4) (h5:p5):Hid p0∧Hid p1∧Hid p2∧Hid p3∧Hid p4∧Hid p5:=⟨Lib.hid h0,Lib.hid h1,Lib.hid h2,Lib.hid h3,Lib.hid h4,Lib.hid h5⟩
theorem hJ7 {p0 p1 p2 p3 p4 p5 p6:Prop} (h0:p0) (h1:p1) (h2:p2) (h3:p3) (h4:p4) (h5:p5) (h6:p6):Hid p0∧Hid p1∧Hid p2∧Hid p3∧Hid p4∧Hid p5∧Hid p6:=⟨Lib.hid h0,Lib.hid h1,Lib.hid h2,Lib.hid h3,Lib.hid h4,Lib.hid h5,Lib.hid h6⟩
theorem hJ8 {p0 p1 p2 p3 p4 p5 p6 p7:Prop} (h0:p0) (h1:p1) (h2:p2) (h3:p3) (h4:p4) (h5:p5) (h6:p6) (h7:p7):Hid p0∧Hid p1∧Hid p2∧Hid p3∧Hid p4∧Hid p5∧Hid p6∧Hid p7:=⟨Lib.hid h0,Lib.hid h1,Lib.hid h2,Lib.hid h3,Lib.hid h4,Lib.hid h5,Lib.hid h6,Lib.hid h7⟩
theorem zcQ (g off j:Nat):(⟨g,off,none⟩:Addr).add j=⟨g,off+j,none⟩:=by
 unfold Addr.add;split <;> simp_all
structure Mod (S:Nat→Prop) (w w':World):Prop where
 os:w'.os=w.os
 tape:w'.tape=w.tape
 output:w'.output=w.output
 size:w.heap.size≤w'.heap.size
 block:∀ k,k<w.heap.size→¬ S k→w'.heap[k]? = w.heap[k]?
abbrev Ext (w w':World):Prop:=Mod (fun _=>False) w w'
section
variable {S T U:Nat→Prop} {a b c w w':World}
theorem Mod.refl (S:Nat→Prop) (w:World):Mod S w w:=⟨rfl,rfl,rfl,Nat.le_refl _,fun _ _ _=>rfl⟩
theorem Mod.mono (h:Mod S w w') (hs:∀ k,k<w.heap.size→S k→T k):Mod T w w':=
 ⟨h.os,h.tape,h.output,h.size,fun k hk hn=>h.block k hk fun hS=>hn (hs k hk hS)⟩
theorem Mod.trans (h:Mod S a b) (k:Mod T b c) (hT:∀ i,i<a.heap.size→T i→S i):Mod S a c:=
 ⟨k.os.trans h.os,k.tape.trans h.tape,k.output.trans h.output,Nat.le_trans h.size k.size,
  fun i hi hn=>(k.block i (Nat.lt_of_lt_of_le hi h.size) fun hTi=>hn (hT i hi hTi)).trans (h.block i hi hn)⟩
theorem Mod.drew (h:Mod S a w):Mod S a w.drew:=⟨h.os,h.tape,h.output,h.size,h.block⟩
theorem Mod.drewN (h:Mod S a w) (n:Nat):Mod S a (w.drewN n):=⟨h.os,h.tape,h.output,h.size,h.block⟩
theorem Mod.alloc (h:Mod S a w) (o:Obj):Mod S a (w.alloc o):=
 ⟨h.os,h.tape,h.output,by have:=h.size;simp;omega,fun k hk hn=>(Below.heap_alloc _ _ _ (Nat.lt_of_lt_of_le hk h.size)).trans (h.block k hk hn)⟩
theorem Mod.setCell (h:Mod S a w) {p:Addr} (hp:a.heap.size≤p.block∨S p.block) (u:Value):Mod S a (w.setCell p u):=
 ⟨h.os,h.tape,h.output,by have:=h.size;simp[World.setCell];omega,
  fun k hk hn=>(Below.heap_setCell _ _ _ _ (fun e=>by subst e;rcases hp with hp|hp;omega;exact hn hp)).trans (h.block k hk hn)⟩
theorem Mod.grown (h:Mod S a w) {row:Option Nat} (hg:w.grownBy w' row) (hr:∀ k,row=some k→a.heap.size≤k∨S k):Mod S a w':=
 ⟨hg.os.trans h.os,hg.tape.trans h.tape,hg.output.trans h.output,Nat.le_trans h.size hg.size,
  fun k hk hn=>(hg.block k (Nat.lt_of_lt_of_le hk h.size) (fun e=>by rcases hr k e.symm with h1|h1;omega;exact hn h1)).trans (h.block k hk hn)⟩
theorem Mod.below {B:Nat} (h:Mod S w w') (hB:B≤w.heap.size) (hS:∀ k,k<B→¬ S k):Below B w w':=
 ⟨h.os,h.tape,h.output,h.size,fun k hk=>h.block k (by omega) (hS k hk)⟩
theorem Ext.below (h:Ext w w'):Below w.heap.size w w':=Mod.below h (Nat.le_refl _) fun _ _=>id
theorem Ext.mod (h:Ext w w') (S:Nat→Prop):Mod S w w':=Mod.mono h fun _ _ h=>h.elim
theorem Mod.ext (h:Mod S a b) (k:Ext b c):Mod S a c:=h.trans k fun _ _ h=>h.elim
theorem Mod.blk (h:Mod S w w') {g:Nat} {o:Obj} (hg:w.heap[g]? = some o) (hS:¬ S g):w'.heap[g]? = some o:=
 (h.block g (Array.getElem?_eq_some_iff.1 hg).1 hS).trans hg
theorem Mod.cell (h:Mod S w w') {p:Addr} {v:Value} (hc:w.cell? p=some v) (hS:¬ S p.block):w'.cell? p=some v:=
 (World.cell?_of_block (h.block p.block (World.block_lt_of_cell? w p hc) hS)).trans hc
end
abbrev zD (N:Nat):Nat→Prop:=fun k=>N≤k
theorem Mod.self {S:Nat→Prop} {a b c:World} (h:Mod S a b) (h':Mod S b c):Mod S a c:=h.trans h' (fun _ _=>id)
theorem Mod.toExt {w w':World} (h:Mod (zD w.heap.size) w w'):Ext w w':=Mod.mono h (fun _ hk h=>by unfold zD at h;omega)
def Sl (w:World) (T:Nat→Prop) (k:Nat) (v:Value) (n:Nat) (xs:List Value):Prop:=
 xs.length=n*k∧∃ A c,v=.slice A n c∧n≤c∧c≤maxLen ∧
  (0<n→∃ g off,A=some ⟨g,off,none⟩∧T g∧∀ j u,xs[j]? = some u→w.cell? ⟨g,off+j,none⟩=some u)
section
variable {S T U:Nat→Prop} {w w':World} {k n:Nat} {v:Value} {xs:List Value}
theorem Sl.nil (w:World) (T:Nat→Prop) (k:Nat):Sl w T k (.slice none 0 0) 0 []:=
 ⟨by simp,none,0,rfl,Nat.le_refl _,Nat.zero_le _,fun h=>absurd h (by omega)⟩
theorem Sl.mod (h:Sl w T k v n xs) (hm:Mod S w w') (hd:∀ g,T g→¬ S g):Sl w' T k v n xs:=by
 obtain ⟨hl,A,c,rfl,hn,hc,hx⟩:=h
 refine ⟨hl,A,c,rfl,hn,hc,fun h0=>?_⟩
 obtain ⟨g,off,rfl,hT,hcell⟩:=hx h0
 exact ⟨g,off,rfl,hT,fun j u hu=>hm.cell (hcell j u hu) (hd g hT)⟩
theorem Sl.ext (h:Sl w T k v n xs) (hm:Ext w w'):Sl w' T k v n xs:=h.mod hm fun _ _=>id
theorem Sl.mono (h:Sl w T k v n xs) (hT:∀ g,T g→U g):Sl w U k v n xs:=by
 obtain ⟨hl,A,c,rfl,hn,hc,hx⟩:=h
 refine ⟨hl,A,c,rfl,hn,hc,fun h0=>?_⟩
 obtain ⟨g,off,rfl,hg,hcell⟩:=hx h0
 exact ⟨g,off,rfl,hT g hg,hcell⟩
theorem Sl.cap (h:Sl w T k v n xs) (hk:0<k):Sl w (fun g=>T g∧g<w.heap.size) k v n xs:=by
 obtain ⟨hl,A,c,rfl,hn,hc,hx⟩:=h
 refine ⟨hl,A,c,rfl,hn,hc,fun h0=>?_⟩
 obtain ⟨g,off,rfl,hg,hcell⟩:=hx h0
 have h1:0<xs.length:=by rw[hl];exact Nat.mul_pos h0 hk
 exact ⟨g,off,rfl,⟨hg,World.block_lt_of_cell? w ⟨g,off+0,none⟩ (hcell 0 _ (List.getElem?_eq_getElem h1))⟩,hcell⟩
theorem Sl.drew (h:Sl w T k v n xs):Sl w.drew T k v n xs:=h
theorem Sl.alloc (h:Sl w T k v n xs) (o:Obj):Sl (w.alloc o) T k v n xs:=h.ext ((Mod.refl _ w).alloc o)
theorem Sl.le (h:Sl w T k v n xs):n≤maxLen:=by
 obtain ⟨_,A,c,rfl,hn,hc,_⟩:=h;omega
def cutA (A:Option Addr) (l m s:Nat):Option Addr:=if m=l then A else A.map (·.add (l*s))
@[go_sem] theorem cutA_zero (A:Option Addr) (m s:Nat):cutA A 0 m s=A:=by
 unfold cutA;split
 · rfl
 cases A <;> simp[Addr.add]
theorem Sl.cutA {A:Option Addr} {c:Nat} (h:Sl w T k (.slice A n c) n xs) {m:Nat} (hm:m≤n):
  Sl w T k (.slice (cutA A m c k) (n-m) (c-m)) (n-m) (xs.drop (m*k)):=by
 obtain ⟨hl,A',c',e,hn,hc,hx⟩:=h
 injection e with e1 _ e3;subst e1;subst e3
 refine ⟨by rw[List.length_drop,hl,Nat.sub_mul],_,_,rfl,by omega,by omega,fun h0=>?_⟩
 obtain ⟨g,off,rfl,hg,hcell⟩:=hx (by omega)
 unfold Go.Proofs.YtjbkjhhjofeldaaGreat.cutA
 rw[if_neg (by omega)]
 refine ⟨g,off+m*k,by simp[zcQ],hg,fun j u hu=>?_⟩
 rw[Nat.add_assoc]
 exact hcell _ u (by rw[←hu,List.getElem?_drop])
theorem Sl.upto {A:Option Addr} {c:Nat} (h:Sl w T k (.slice A n c) n xs) {m:Nat} (hm:m≤n):
  Sl w T k (.slice A m c) m (xs.take (m*k)):=by
 obtain ⟨hl,A',c',e,hn,hc,hx⟩:=h
 injection e with e1 _ e3;subst e1;subst e3
 refine ⟨by rw[List.length_take,hl];exact Nat.min_eq_left (Nat.mul_le_mul_right k hm),_,_,rfl,by omega,hc,fun h0=>?_⟩
 obtain ⟨g,off,rfl,hg,hcell⟩:=hx (by omega)
 refine ⟨g,off,rfl,hg,fun j u hu=>hcell j u ?_⟩
 rw[List.getElem?_take] at hu
 split at hu
 · exact hu
 cases hu
theorem Sl.of_own {base:Nat} {e:TypeId} (h:w.ownsRow base e k v n xs) (hT:∀ g,v.ownBlock=some g→T g):Sl w T k v n xs:=by
 refine ⟨h.1,?_⟩
 rcases h.2 with ⟨rfl,rfl⟩|⟨g,cap,cur,rfl,hb,hh,hnc,hcm,hsz,htk⟩
 · exact ⟨none,0,rfl,Nat.le_refl _,Nat.zero_le _,fun h=>absurd h (by omega)⟩
 refine ⟨_,cap,rfl,hnc,hcm,fun _=>⟨g,0,rfl,hT g rfl,fun j u hu=>?_⟩⟩
 have:=h.cells (g:=g) rfl j u hu
 rwa [zcQ] at this
end
section
variable {P:Program} {w:World} (t:TypeId) (a:Option Addr) (len cap:Nat) (ht:P.underlying t=some (.slice (P.elem t)))
include ht
@[go_sem 500] theorem run_slice_any_cut (lo hi mx:Option Value):
  (Instr.slice t (.slice a len cap) lo hi mx).run P w =
   ((Instr.sliceBounds true len cap lo hi mx).run P w).andThen fun b w=>((sizeOf (P.elem t)).run P w).andThen fun s w=>.ok (.slice (cutA a b.1 b.2.2 s) (b.2.1-b.1) (b.2.2-b.1)) w:=
 run_slice_any (ht:=ht) ..
@[go_sem high] theorem run_slice_lh_cut (kl kh:IntKind) (l h:Int) (h0:0≤l) (h1:l≤h) (h2:h≤cap):
  (Instr.slice t (.slice a len cap) (some (.int kl l)) (some (.int kh h)) none).run P w =
   ((sizeOf (P.elem t)).run P w).andThen fun s w=>.ok (.slice (cutA a l.toNat cap s) (h.toNat-l.toNat) (cap-l.toNat)) w:=by
 rw[run_slice_lh (ht:=ht) (h0:=h0) (h1:=h1) (h2:=h2)];rfl
@[go_sem high] theorem run_slice_l_cut (kl:IntKind) (l:Int) (h0:0≤l) (h1:l≤len):
  (Instr.slice t (.slice a len cap) (some (.int kl l)) none none).run P w =
   ((sizeOf (P.elem t)).run P w).andThen fun s w=>.ok (.slice (cutA a l.toNat cap s) (len-l.toNat) (cap-l.toNat)) w:=by
 rw[run_slice_l (ht:=ht) (h0:=h0) (h1:=h1)];rfl
@[go_sem high] theorem run_slice_h_cut (kh:IntKind) (h:Int) (h0:0≤h) (h2:h≤cap):
  (Instr.slice t (.slice a len cap) none (some (.int kh h)) none).run P w =
   ((sizeOf (P.elem t)).run P w).andThen fun _ w=>.ok (.slice a h.toNat cap) w:=by
 rw[run_slice_h (ht:=ht) (h0:=h0) (h2:=h2)]
 congr 1;funext s w
 have:=cutA_zero a cap s
 unfold cutA at this
 simp only[sliced,Nat.sub_zero,this]
@[go_sem high] theorem run_slice_all_cut:
  (Instr.slice t (.slice a len cap) none none none).run P w=((sizeOf (P.elem t)).run P w).andThen fun _ w=>.ok (.slice a len cap) w:=by
 rw[run_slice_all (ht:=ht)]
 congr 1;funext s w
 have:=cutA_zero a cap s
 unfold cutA at this
 simp only[sliced,Nat.sub_zero,this]
end
@[go_sem] theorem run_store_float' (P:Program) (w:World) (a:Addr) (m:Mode) (k:FloatKind) (b:Nat):(store a (.float k b) m).run P w=stored P w a (.float k b) m:=run_store P w a _ m rfl
theorem yG {k:IntKind} {a b:Int} (h:a=b):Ending.returned (.int k a)=.returned (.int k b):=by rw[h]
theorem yC {a b:Bool} (h:a=b):Ending.returned (.bool a)=.returned (.bool b):=by rw[h]
def B (b:UInt8):Value:=.int .u8 (b.toNat:Int)
theorem zn8 (l:List UInt8):∀ u∈l.map B,u.oneCell'=true:=by
 intro u hu;obtain ⟨b,_,rfl⟩:=List.mem_map.1 hu;rfl
abbrev Byt (w:World) (T:Nat→Prop) (v:Value) (bs:List UInt8):Prop:=Sl w T 1 v bs.length (bs.map B)
theorem zN {w w':World} {S:Nat→Prop} {base:Nat} {e:TypeId} {k n:Nat} {v:Value} {xs:List Value} (h:w.ownsRow base e k v n xs) (hm:Mod S w w')
  (hS:∀ g,v.ownBlock=some g→¬ S g):w'.ownsRow base e k v n xs:=by
 refine ⟨h.1,?_⟩
 rcases h.2 with h2|⟨g,cap,cur,rfl,hb,hg,rest⟩
 · exact Or.inl h2
 exact Or.inr ⟨g,cap,cur,rfl,hb,hm.blk hg (hS g rfl),rest⟩
theorem zC {w:World} {base:Nat} {e:TypeId} {k n:Nat} {v:Value} {xs:List Value} (h:w.ownsRow base e k v n xs):∃ A c,v=.slice A n c:=by
 rcases h.2 with ⟨rfl,rfl⟩|⟨g,cap,cur,rfl,_⟩
 · exact ⟨none,0,rfl⟩
 exact ⟨_,cap,rfl⟩
section
variable {P:Program} (w:World)
theorem zkG (base:Nat) (t ty e:TypeId) (i:TypeInfo) (size:Nat) (ht:P.underlying t=some (.slice e)) (hi:P.info? e=some i)
  (v:Value) (n:Nat) (xs:List Value) (hown:w.ownsRow base e size v n xs) (c:Nat):(Builtin.append_ #[t,t] ty #[v,.slice none 0 c]).run P w=.ok v w:=by
 rcases hown.2 with ⟨rfl,rfl⟩|⟨g,cap,cur,rfl,_,_,hnc,_⟩
 · simp[Builtin.append_,run_underlying ht,sizeOf,typeInfo,hi,Builtin.lenOf,Builtin.firstCells]
 simp[Builtin.append_,run_underlying ht,sizeOf,typeInfo,hi,Builtin.lenOf,Builtin.firstCells,hnc,storeCells]
theorem run_app (t ty e:TypeId) (i:TypeInfo) (z:Value) (size bytes:Nat) (ht:P.underlying t=some (.slice e)) (hi:P.info? e=some i) (hz:i.zero=some z)
  (hsize:i.size=size) (hby:i.bytes=bytes) (hzs:z.cells.size=size) (hsz:0<size)
  (v:Value) (n:Nat) (xs:List Value) (hown:w.ownsRow 0 e size v n xs)
  (T:Nat→Prop) (x:Value) (m:Nat) (news:List Value) (hr:Sl w T size x m news) (h1:∀ u∈news,u.oneCell'=true)
  (h63:n+m≤maxLen) (hbytes:(n+m)*bytes≤140737488355328):
  ∃ v' w',(Builtin.append_ #[t,t] ty #[v,x]).run P w=.ok v' w'∧w'.ownsRow 0 e size v' (n+m) (xs++news)∧w.grownBy w' v.ownBlock ∧
   (v'.ownBlock=v.ownBlock∨v'.ownBlock=some w.heap.size):=by
 obtain ⟨hl,A,c,rfl,hmc,hcm,hx⟩:=hr
 rcases A with _|ad
 ·
  have hm:m=0:=by
   rcases Nat.eq_zero_or_pos m with h0|h0
   · exact h0
   obtain ⟨g,off,h,_⟩:=hx h0
   cases h
  subst hm
  have hn:news=[]:=List.eq_nil_of_length_eq_zero (by simpa using hl)
  subst hn
  exact ⟨v,w,zkG w 0 t ty e i size ht hi v n xs hown c,by simpa using hown,World.grownBy.refl w _,.inl rfl⟩
 have hcells:∀ j u,news[j]? = some u→w.cell? (ad.add j)=some u:=by
  intro j u hu
  rcases Nat.eq_zero_or_pos m with h0|h0
  ·
   subst h0
   have hn:news=[]:=List.eq_nil_of_length_eq_zero (by simpa using hl)
   subst hn
   simp at hu
  obtain ⟨g,off,h,_,hc⟩:=hx h0
  injection h with h
  subst h
  rw[zcQ]
  exact hc j u hu
 obtain ⟨v',w',hrun,h2,h3,_,h5⟩:=run_append_own_at (P:=P) w 0 t ty e i z size bytes ht hi hz hsize hby hzs hsz v n xs hown ad m c news hl hcells h1 h63 hbytes (Nat.zero_le _)
 exact ⟨v',w',hrun,h2,h3,h5⟩
theorem wp_app {o:Oper} {a:Act} {K:Act→World→Prop} {Q:Exit→Act→World→Prop} (s x:Operand) (t:TypeId)
  (ho:o.op=.call { callee:=.builtin .append,args:=#[s,x],argTypes:=#[t,t] })
  (e:TypeId) (i:TypeInfo) (z:Value) (size bytes:Nat) (ht:P.underlying t=some (.slice e)) (hi:P.info? e=some i) (hz:i.zero=some z)
  (hsize:i.size=size) (hby:i.bytes=bytes) (hzs:z.cells.size=size) (hsz:0<size)
  (v:Value) (n:Nat) (xs:List Value) (hs:a.eval s=v) (hown:w.ownsRow 0 e size v n xs)
  (T:Nat→Prop) (xv:Value) (m:Nat) (news:List Value) (hx:a.eval x=xv) (hr:Sl w T size xv m news) (h1:∀ u∈news,u.oneCell'=true)
  (h63:n+m≤maxLen) (hbytes:(n+m)*bytes≤140737488355328)
  (h:∀ v' w',w'.ownsRow 0 e size v' (n+m) (xs++news)→w.grownBy w' v.ownBlock→(v'.ownBlock=v.ownBlock∨v'.ownBlock=some w.heap.size)→K (a.put o.dst v') w'):o.wp P a w K Q:=by
 obtain ⟨v',w',hrun,h2,h3,h4⟩:=run_app (P:=P) w t o.type e i z size bytes ht hi hz hsize hby hzs hsz v n xs hown T xv m news hr h1 h63 hbytes
 unfold Oper.wp execOp
 simp only[ho,resolve,invoke,builtin,Sem.run_bind,Sem.run_pure,Result.andThen_ok,List.map_toArray,List.map_cons,List.map_nil,hs,hx,hrun]
 exact h v' w' h2 h3 h4
theorem xB {ops:Array Oper} {rest:List Oper} {o:Oper} {a:Act} {Q:Exit→Act→World→Prop} (hgd:o.guard=none) (s x:Operand) (t:TypeId)
  (ho:o.op=.call { callee:=.builtin .append,args:=#[s,x],argTypes:=#[t,t] })
  (e:TypeId) (i:TypeInfo) (z:Value) (size bytes:Nat) (ht:P.underlying t=some (.slice e)) (hi:P.info? e=some i) (hz:i.zero=some z)
  (hsize:i.size=size) (hby:i.bytes=bytes) (hzs:z.cells.size=size) (hsz:0<size)
  (v:Value) (n:Nat) (xs:List Value) (hs:a.eval s=v) (hown:w.ownsRow 0 e size v n xs)
  (T:Nat→Prop) (xv:Value) (m:Nat) (news:List Value) (hx:a.eval x=xv) (hr:Sl w T size xv m news) (h1:∀ u∈news,u.oneCell'=true)
  (h63:n+m≤maxLen) (hbytes:(n+m)*bytes≤140737488355328)
  (h:∀ v' w',w'.ownsRow 0 e size v' (n+m) (xs++news)→w.grownBy w' v.ownBlock→(v'.ownBlock=v.ownBlock∨v'.ownBlock=some w.heap.size)→wpList P ops Q rest (a.put o.dst v') w'):wpList P ops Q (o :: rest) a w:=
 wpList_plain hgd fun _ hK=>wp_app w s x t ho e i z size bytes ht hi hz hsize hby hzs hsz v n xs hs hown T xv m news hx hr h1 h63 hbytes fun v' w' h2 h3 h4=>hK _ _ (h v' w' h2 h3 h4)
theorem zbN {ops:Array Oper} {o:Oper} {a:Act} {K:Act→World→Prop} {Q:Exit→Act→World→Prop} {E:Prop} (hgd:o.guard=none) (s x:Operand) (t:TypeId)
  (ho:o.op=.call { callee:=.builtin .append,args:=#[s,x],argTypes:=#[t,t] })
  (e:TypeId) (i:TypeInfo) (z:Value) (size bytes:Nat) (ht:P.underlying t=some (.slice e)) (hi:P.info? e=some i) (hz:i.zero=some z)
  (hsize:i.size=size) (hby:i.bytes=bytes) (hzs:z.cells.size=size) (hsz:0<size)
  (v:Value) (n:Nat) (xs:List Value) (hs:a.eval s=v) (hown:w.ownsRow 0 e size v n xs)
  (T:Nat→Prop) (xv:Value) (m:Nat) (news:List Value) (hx:a.eval x=xv) (hr:Sl w T size xv m news) (h1:∀ u∈news,u.oneCell'=true)
  (h63:n+m≤maxLen) (hbytes:(n+m)*bytes≤140737488355328)
  (h:∀ v' w',w'.ownsRow 0 e size v' (n+m) (xs++news)→w.grownBy w' v.ownBlock→(v'.ownBlock=v.ownBlock∨v'.ownBlock=some w.heap.size)→K (a.put o.dst v') w'):
  if Region.wanted o (yielded ops a.tmps)=true then Oper.wp P o a w K Q else E:=by
 have hw:Region.wanted o (yielded ops a.tmps)=true:=by simp[Region.wanted,hgd]
 rw[if_pos hw]
 exact wp_app w s x t ho e i z size bytes ht hi hz hsize hby hzs hsz v n xs hs hown T xv m news hx hr h1 h63 hbytes h
end
theorem zB {w:World} {b:Nat} {cs:Array Value} {t:TypeId} (j:Nat) (h:w.heap[b]? = some (.cells cs t (0,0))):w.frozen? ⟨b,j,none⟩=false:=by
 simp[World.frozen?,h]
theorem zA {w:World} {b j:Nat} {cs:List Value} {t:TypeId} {u:Value} (h:w.heap[b]? = some (.cells cs.toArray t (0,0))) (hj:cs[j]? = some u):w.cell? ⟨b,j,none⟩=some u:=by
 simp[World.cell?,h,hj]
theorem zM {a w:World} {b:Nat} (h:Mod (fun k=>k=b) a w) (j:Nat) (u:Value):Mod (fun k=>k=b) a (w.setCell ⟨b,j,none⟩ u):=h.setCell (p:=⟨b,j,none⟩) (.inr rfl) u
theorem cq3 {w:World} {b:Nat} {t:TypeId} {l:List Value} {v0 v1 v2:Value} (h:w.heap[b]? = some (.cells (v0 :: v1 :: v2 :: l).toArray t (0,0))):w.cell? ⟨b,0,none⟩=some v0∧w.cell? ⟨b,1,none⟩=some v1∧w.cell? ⟨b,2,none⟩=some v2:=by simp[World.cell?,h]
theorem cq4 {w:World} {b:Nat} {t:TypeId} {l:List Value} {v0 v1 v2 v3:Value} (h:w.heap[b]? = some (.cells (v0 :: v1 :: v2 :: v3 :: l).toArray t (0,0))):w.cell? ⟨b,0,none⟩=some v0∧w.cell? ⟨b,1,none⟩=some v1∧w.cell? ⟨b,2,none⟩=some v2∧w.cell? ⟨b,3,none⟩=some v3:=by simp[World.cell?,h]
theorem cq6 {w:World} {b:Nat} {t:TypeId} {l:List Value} {v0 v1 v2 v3 v4 v5:Value} (h:w.heap[b]? = some (.cells (v0 :: v1 :: v2 :: v3 :: v4 :: v5 :: l).toArray t (0,0))):w.cell? ⟨b,0,none⟩=some v0∧w.cell? ⟨b,1,none⟩=some v1∧w.cell? ⟨b,2,none⟩=some v2∧w.cell? ⟨b,3,none⟩=some v3∧w.cell? ⟨b,4,none⟩=some v4∧w.cell? ⟨b,5,none⟩=some v5:=by simp[World.cell?,h]
theorem cq8 {w:World} {b:Nat} {t:TypeId} {l:List Value} {v0 v1 v2 v3 v4 v5 v6 v7:Value} (h:w.heap[b]? = some (.cells (v0 :: v1 :: v2 :: v3 :: v4 :: v5 :: v6 :: v7 :: l).toArray t (0,0))):w.cell? ⟨b,0,none⟩=some v0∧w.cell? ⟨b,1,none⟩=some v1∧w.cell? ⟨b,2,none⟩=some v2∧w.cell? ⟨b,3,none⟩=some v3∧w.cell? ⟨b,4,none⟩=some v4∧w.cell? ⟨b,5,none⟩=some v5∧w.cell? ⟨b,6,none⟩=some v6∧w.cell? ⟨b,7,none⟩=some v7:=by simp[World.cell?,h]
theorem zi4 {w:World} {b:Nat} {t:TypeId} {l:List Value} {v0 v1 v2 v3 v4 v5 v6 v7 v8 v9:Value} (h:w.heap[b]? = some (.cells (v0 :: v1 :: v2 :: v3 :: v4 :: v5 :: v6 :: v7 :: v8 :: v9 :: l).toArray t (0,0))):w.cell? ⟨b,0,none⟩=some v0∧w.cell? ⟨b,1,none⟩=some v1∧w.cell? ⟨b,2,none⟩=some v2∧w.cell? ⟨b,3,none⟩=some v3∧w.cell? ⟨b,4,none⟩=some v4∧w.cell? ⟨b,5,none⟩=some v5∧w.cell? ⟨b,6,none⟩=some v6∧w.cell? ⟨b,7,none⟩=some v7∧w.cell? ⟨b,8,none⟩=some v8∧w.cell? ⟨b,9,none⟩=some v9:=by simp[World.cell?,h]
theorem zbB {P:Program} {ops:Array Oper} {Q:Exit→Act→World→Prop} {md:Region.Mode} {S:World→Prop} {i:Nat} {oi:Oper} {v:Value} {fuel:Nat} {listed:Array Bool} {a:Act} {w:World} (d:Option Tmp)
  (hi:ops[i]? = some oi) (hd:oi.dst=d) (hs:Region.noSelect ops=true) (hf:Region.free md ops listed i=true) (hr:(Region.ready md ops listed).contains i=true)
  (hQ:∀ c a w,Q (.panic c) (a.put d v) w→Q (.panic c) a w) (hy:YieldsIf P ops S oi v a) (hS:S w)
  (h:wpAnyH P md ops Q S fuel (listed.setIfInBounds i true) (a.put d v) w):wpAnyH P md ops Q S (fuel+1) listed a w:=by
 subst hd
 exact wpAnyH_take hi hs hf hr hQ hy hS h
theorem tkH {P:Program} {ops:Array Oper} {Q:Exit→Act→World→Prop} {md:Region.Mode} {S:World→Prop} {oi:Oper} {fuel:Nat} {listed:Array Bool} {a:Act} {w:World} (i:Nat) (d:Option Tmp)
  (hi:ops[i]? = some oi) (hd:oi.dst=d) (v:Value) (hS:S w) (hy:∀ w,S w→(execOp a.eval oi).run P w=.ok (.value v) w)
  (h:wpAnyH P md ops Q S fuel (listed.setIfInBounds i true) (a.put d v) w)
  (hs:Region.noSelect ops=true:=by kernel_rfl) (hf:Region.free md ops listed i=true:=by kernel_rfl) (hr:(Region.ready md ops listed).contains i=true:=by kernel_rfl)
  (hw:Region.wanted oi (yielded ops a.tmps)=true:=by kernel_rfl) (hQ:∀ c a w,Q (.panic c) (a.put d v) w→Q (.panic c) a w:=by exact fun _ _ _ h=>h):wpAnyH P md ops Q S (fuel+1) listed a w:=
 zbB d hi hd hs hf hr hQ (.inl ⟨hw,hy⟩) hS h
theorem tuH {P:Program} {ops:Array Oper} {Q:Exit→Act→World→Prop} {md:Region.Mode} {S:World→Prop} {oi:Oper} {fuel:Nat} {listed:Array Bool} {a:Act} {w:World} (i:Nat) (d:Option Tmp)
  (hi:ops[i]? = some oi) (hd:oi.dst=d) (hS:S w) (h:wpAnyH P md ops Q S fuel (listed.setIfInBounds i true) (a.put d undef) w)
  (hs:Region.noSelect ops=true:=by kernel_rfl) (hf:Region.free md ops listed i=true:=by kernel_rfl) (hr:(Region.ready md ops listed).contains i=true:=by kernel_rfl)
  (hw:Region.wanted oi (yielded ops a.tmps)=false:=by kernel_rfl) (hQ:∀ c a w,Q (.panic c) (a.put d undef) w→Q (.panic c) a w:=by exact fun _ _ _ h=>h):wpAnyH P md ops Q S (fuel+1) listed a w:=
 zbB d hi hd hs hf hr hQ (.inr ⟨hw,rfl⟩) hS h
theorem tkE {P:Program} {ops:Array Oper} {Q:Exit→Act→World→Prop} {md:Region.Mode} {oi:Oper} {fuel:Nat} {listed:Array Bool} {a:Act} {W w:World} (i:Nat) (d:Option Tmp)
  (hi:ops[i]? = some oi) (hd:oi.dst=d) (v:Value) (hS:Ext W w) (hy:∀ w,(∀ b o,b<W.heap.size→w.cell? ⟨b,o,none⟩=W.cell? ⟨b,o,none⟩)→(∀ b o,b<W.heap.size→w.frozen? ⟨b,o,none⟩=W.frozen? ⟨b,o,none⟩)→(execOp a.eval oi).run P w=.ok (.value v) w)
  (h:wpAnyH P md ops Q (fun W'=>Ext W W') fuel (listed.setIfInBounds i true) (a.put d v) w)
  (hs:Region.noSelect ops=true:=by kernel_rfl) (hf:Region.free md ops listed i=true:=by kernel_rfl) (hr:(Region.ready md ops listed).contains i=true:=by kernel_rfl)
  (hw:Region.wanted oi (yielded ops a.tmps)=true:=by kernel_rfl) (hQ:∀ c a w,Q (.panic c) (a.put d v) w→Q (.panic c) a w:=by exact fun _ _ _ h=>h):wpAnyH P md ops Q (fun W'=>Ext W W') (fuel+1) listed a w:=
 zbB d hi hd hs hf hr hQ (.inl ⟨hw,fun w' hE=>hy w' (fun b o h=>hE.below.cell (p:=⟨b,o,none⟩) h) (fun b o h=>hE.below.frozen (p:=⟨b,o,none⟩) h)⟩) hS h
theorem pL:(∀ t ds (d:Tmp) v,Act.put ⟨t,ds⟩ (some d) v=⟨t.setIfInBounds d v,ds⟩)∧(∀ (a:Act) v,a.put none v=a)∧(∀ (l:List Value) i v,l.toArray.setIfInBounds i v=(l.set i v).toArray) ∧
  (∀ (x y:Value) l,(x :: l).set 0 y=y :: l)∧(∀ (x y:Value) l n,(x :: l).set (n+1) y=x :: l.set n y):=
 ⟨fun _ _ _ _=>rfl,fun _ _=>rfl,fun _ _ _=>by simp,fun _ _ _=>rfl,fun _ _ _ _=>rfl⟩
theorem zaJ {P:Program} {ops:Array Oper} {Q:Exit→Act→World→Prop} {md:Region.Mode} {S:World→Prop} {fuel:Nat} {listed:Array Bool} {a:Act} {w:World} {o:Oper} (i:Nat) (ho:ops[i]? = some o) (h:(∀ K':Act→World→Prop,Shut (∀ a w,S w→(S w→wpAnyH P md ops Q S fuel (listed.setIfInBounds i true) a w)→K' a w)→if Region.wanted o (yielded ops a.tmps)=true then Oper.wp P o a w K' Q else K' (a.put o.dst undef) w)) (hr:Region.ready md ops listed=[i]:=by kernel_rfl):wpAnyH P md ops Q S (fuel+1) listed a w:=wpAnyH_ready hr (by simp) (AllReadyH.cons ho h AllReadyH.nil)
theorem rdy2 {P:Program} {ops:Array Oper} {Q:Exit→Act→World→Prop} {md:Region.Mode} {S:World→Prop} {fuel:Nat} {listed:Array Bool} {a:Act} {w:World} {o u:Oper} (i j:Nat) (ho:ops[i]? = some o) (hu:ops[j]? = some u) (h:(∀ K':Act→World→Prop,Shut (∀ a w,S w→(S w→wpAnyH P md ops Q S fuel (listed.setIfInBounds i true) a w)→K' a w)→if Region.wanted o (yielded ops a.tmps)=true then Oper.wp P o a w K' Q else K' (a.put o.dst undef) w)) (k:(∀ K':Act→World→Prop,Shut (∀ a w,S w→(S w→wpAnyH P md ops Q S fuel (listed.setIfInBounds j true) a w)→K' a w)→if Region.wanted u (yielded ops a.tmps)=true then Oper.wp P u a w K' Q else K' (a.put u.dst undef) w)) (hr:Region.ready md ops listed=[i,j]:=by kernel_rfl):wpAnyH P md ops Q S (fuel+1) listed a w:=wpAnyH_ready hr (by simp) (AllReadyH.cons ho h (AllReadyH.cons hu k AllReadyH.nil))
theorem tkI {P:Program} {ops:Array Oper} {Q:Exit→Act→World→Prop} {md:Region.Mode} {S:World→Prop} {oi:Oper} {fuel:Nat} {listed:Array Bool} {a:Act} {w:World} (i:Nat) (d:Option Tmp)
  (hi:ops[i]? = some oi) (hd:oi.dst=d) (v:Value) (hS:S w) (hy:∀ w,S w→(execOp a.eval oi).run P w=.ok (.value v) w)
  (h:wpAnyH P md ops Q S fuel (listed.setIfInBounds i true) (a.put d v) w)
  (hs:Region.noSelect ops=true:=by kernel_rfl) (hf:Region.free md ops listed i=true:=by kernel_rfl) (hr:(Region.ready md ops listed).contains i=true:=by decide +kernel)
  (hw:Region.wanted oi (yielded ops a.tmps)=true:=by kernel_rfl) (hQ:∀ c a w,Q (.panic c) (a.put d v) w→Q (.panic c) a w:=by exact fun _ _ _ h=>h):wpAnyH P md ops Q S (fuel+1) listed a w:=
 tkH i d hi hd v hS hy h hs hf hr hw hQ
theorem tuI {P:Program} {ops:Array Oper} {Q:Exit→Act→World→Prop} {md:Region.Mode} {S:World→Prop} {oi:Oper} {fuel:Nat} {listed:Array Bool} {a:Act} {w:World} (i:Nat) (d:Option Tmp)
  (hi:ops[i]? = some oi) (hd:oi.dst=d) (hS:S w) (h:wpAnyH P md ops Q S fuel (listed.setIfInBounds i true) (a.put d undef) w)
  (hs:Region.noSelect ops=true:=by kernel_rfl) (hf:Region.free md ops listed i=true:=by kernel_rfl) (hr:(Region.ready md ops listed).contains i=true:=by decide +kernel)
  (hw:Region.wanted oi (yielded ops a.tmps)=false:=by kernel_rfl) (hQ:∀ c a w,Q (.panic c) (a.put d undef) w→Q (.panic c) a w:=by exact fun _ _ _ h=>h):wpAnyH P md ops Q S (fuel+1) listed a w:=
 tuH i d hi hd hS h hs hf hr hw hQ
theorem tkJ {P:Program} {ops:Array Oper} {Q:Exit→Act→World→Prop} {md:Region.Mode} {oi:Oper} {fuel:Nat} {listed:Array Bool} {a:Act} {W w:World} (i:Nat) (d:Option Tmp)
  (hi:ops[i]? = some oi) (hd:oi.dst=d) (v:Value) (hS:Ext W w) (hy:∀ w,(∀ b o,b<W.heap.size→w.cell? ⟨b,o,none⟩=W.cell? ⟨b,o,none⟩)→(∀ b o,b<W.heap.size→w.frozen? ⟨b,o,none⟩=W.frozen? ⟨b,o,none⟩)→(execOp a.eval oi).run P w=.ok (.value v) w)
  (h:wpAnyH P md ops Q (fun W'=>Ext W W') fuel (listed.setIfInBounds i true) (a.put d v) w)
  (hs:Region.noSelect ops=true:=by kernel_rfl) (hf:Region.free md ops listed i=true:=by kernel_rfl) (hr:(Region.ready md ops listed).contains i=true:=by decide +kernel)
  (hw:Region.wanted oi (yielded ops a.tmps)=true:=by kernel_rfl) (hQ:∀ c a w,Q (.panic c) (a.put d v) w→Q (.panic c) a w:=by exact fun _ _ _ h=>h):wpAnyH P md ops Q (fun W'=>Ext W W') (fuel+1) listed a w:=
 tkE i d hi hd v hS hy h hs hf hr hw hQ
set_option linter.unusedSimpArgs false
def Str (P:Program) (t:TypeId) (k:Nat):Prop:=(∃ fs,P.underlying t=some (.struct fs))∧(P.info? t).map (·.size)=some k
def put (cur:List Value) (o:Nat) (vs:List Value):List Value:=cur.take o++vs++cur.drop (o+vs.length)
section
variable {P:Program} {w:World} {t:TypeId} {k g o:Nat} {e:TypeId} {cur cs vs:List Value}
theorem str_agg (h:Str P t k) (w:World):(isAgg t).run P w=.ok true w:=by
 obtain ⟨⟨fs,h1⟩,_⟩:=h
 simp[isAgg,run_underlying h1]
theorem zlQ (h:Str P t k) (w:World):(sizeOf t).run P w=.ok k w:=by
 obtain ⟨_,h2⟩:=h
 cases hq:P.info? t with
 | none=>simp[hq] at h2
 | some i=>
  have hi:i.size=k:=by simpa [hq] using h2
  simp[sizeOf,typeInfo,hq,hi]
theorem jE (hs:Str P t k) (hc:cs.length=k) (h:∀ j u,cs[j]? = some u→w.cell? ⟨g,o+j,none⟩=some u):(Instr.loadAt t (.pointer (some ⟨g,o,none⟩))).run P w=.ok (.agg cs.toArray) w:=by
 have h1:=run_loadCells_list (P:=P) (w:=w) ⟨g,o,none⟩ cs (fun j v hv=>by rw[zcQ];exact h j v hv)
 rw[hc] at h1
 simp[Instr.loadAt,loadVar,str_agg hs,zlQ hs,h1,Instr.sureAddr]
theorem xH (hs:Str P t k) (hg:w.heap[g]? = some (.cells cur.toArray e (0,0))) (hc:cs.length=k) (h:∀ j u,cs[j]? = some u→cur[o+j]? = some u):(Instr.loadAt t (.pointer (some ⟨g,o,none⟩))).run P w=.ok (.agg cs.toArray) w:=
 jE hs hc (fun j u hu=>zA hg (h j u hu))
theorem ld0 (hs:Str P t k) (hg:w.heap[g]? = some (.cells cs.toArray e (0,0))) (hc:cs.length=k:=by exact rfl):(Instr.loadAt t (.pointer (some ⟨g,0,none⟩))).run P w=.ok (.agg cs.toArray) w:=xH hs hg hc (fun j u hu=>by rw[Nat.zero_add];exact hu)
theorem zjE (hs:Str P t k) (hg:w.heap[g]? = some (.cells cur.toArray e (0,0))) (hc:vs.length=k) (hfit:o+k≤cur.length) (h1:∀ v∈vs,v.oneCell'=true):
  (Instr.storeAt t (.pointer (some ⟨g,o,none⟩)) (.agg vs.toArray)).run P w=.ok () (w.setRow g (put cur o vs).toArray):=by
 have h:=run_storeCells_at (P:=P) g o e vs 0 cur.toArray w hg (by simpa [hc] using hfit) h1
 simp[Instr.storeAt,storeVar,Instr.sureAddr,zlQ hs,Value.cells,hc]
 rw[h]
 simp[put]
variable {ops:Array Oper} {rest:List Oper} {op:Oper} {a:Act} {w':World} {Q:Exit→Act→World→Prop}
theorem yT (hgd:op.guard=none) (t:TypeId) (x:Operand) (ho:op.op=.load t x) (xv v:Value) (hx:a.eval x=xv) (hr:(Instr.loadAt t xv).run P w=.ok v w)
  (h:wpList P ops Q rest (a.put op.dst v) w):wpList P ops Q (op :: rest) a w:=
 wpList_plain hgd fun _ hK=>by
  unfold Oper.wp execOp
  simp only[ho,hx,Sem.run_bind,Sem.run_pure,hr,Result.andThen_ok]
  exact hK _ _ h
theorem lD {x:Operand} {v:Value} (t:TypeId) (g o:Nat) (hr:(Instr.loadAt t (.pointer (some ⟨g,o,none⟩))).run P w=.ok v w) (h:wpList P ops Q rest (a.put op.dst v) w) (hgd:op.guard=none:=by rfl) (ho:op.op=.load t x:=by rfl) (hx:a.eval x=.pointer (some ⟨g,o,none⟩):=by rfl):wpList P ops Q (op :: rest) a w:=yT hgd t x ho _ v hx hr h
theorem zjF (hgd:op.guard=none) (t:TypeId) (p x:Operand) (ho:op.op=.store t p x) (pv xv:Value) (hp:a.eval p=pv) (hx:a.eval x=xv) (hr:(Instr.storeAt t pv xv).run P w=.ok () w')
  (h:wpList P ops Q rest (a.put op.dst undef) w'):wpList P ops Q (op :: rest) a w:=
 wpList_plain hgd fun _ hK=>by
  unfold Oper.wp execOp
  simp only[ho,hp,hx,Sem.run_bind,Sem.run_pure,hr,Result.andThen_ok]
  exact hK _ _ h
theorem qH (hgd:op.guard=none) (t:TypeId) (p x:Operand) (ho:op.op=.store t p x) (k g o:Nat) (vs:List Value) (hp:a.eval p=.pointer (some ⟨g,o,none⟩)) (hx:a.eval x=.agg vs.toArray) (hs:Str P t k)
  (e:TypeId) (cur cur':List Value) (hg:w.heap[g]? = some (.cells cur.toArray e (0,0))) (hc:vs.length=k) (hfit:o+k≤cur.length) (h1:∀ v∈vs,v.oneCell'=true) (hcur:put cur o vs=cur')
  (h:∀ w',w'.heap[g]? = some (.cells cur'.toArray e (0,0))→Mod (fun k=>k=g) w w'→w'.heap.size=w.heap.size→wpList P ops Q rest (a.put op.dst undef) w'):wpList P ops Q (op :: rest) a w:=by
 refine zjF hgd t p x ho _ _ hp hx (zjE hs hg hc hfit h1) (h _ ?_ ?_ ?_)
 · rw[hcur];exact setRow_heap w g _ _ e _ hg
 · exact ⟨rfl,rfl,rfl,by simp,fun k hk hn=>setRow_other w g k _ hn⟩
 simp
end
section
variable {P:Program} {w w':World} {ops:Array Oper} {rest:List Oper} {o:Oper} {a:Act} {Q:Exit→Act→World→Prop}
theorem xR (hw:Region.wanted o (yielded ops a.tmps)=true) (t:TypeId) (x:Operand) (ho:o.op=.load t x) (xv v:Value) (hx:a.eval x=xv) (hr:(Instr.loadAt t xv).run P w=.ok v w)
  (h:wpList P ops Q rest (a.put o.dst v) w):wpList P ops Q (o :: rest) a w:=
 wpList_step fun _ hK=>by
  rw[if_pos hw]
  unfold Oper.wp execOp
  simp only[ho,hx,Sem.run_bind,Sem.run_pure,hr,Result.andThen_ok]
  exact hK _ _ h
theorem zbH (t:TypeId) (x:Operand) (ho:o.op=.load t x) (xv v:Value) (hx:a.eval x=xv) (hr:(Instr.loadAt t xv).run P w=.ok v w):(execOp a.eval o).run P w=.ok (.value v) w:=by
 unfold execOp
 simp only[ho,hx,Sem.run_bind,Sem.run_pure,hr,Result.andThen_ok]
theorem zlY {K:Act→World→Prop} {E:Prop} (hgd:o.guard=none) (t:TypeId) (p x:Operand) (ho:o.op=.store t p x) (k g f:Nat) (vs:List Value) (hp:a.eval p=.pointer (some ⟨g,f,none⟩)) (hx:a.eval x=.agg vs.toArray) (hs:Str P t k)
  (e:TypeId) (cur cur':List Value) (hg:w.heap[g]? = some (.cells cur.toArray e (0,0))) (hc:vs.length=k) (hfit:f+k≤cur.length) (h1:∀ v∈vs,v.oneCell'=true) (hcur:put cur f vs=cur')
  (h:∀ w',w'.heap[g]? = some (.cells cur'.toArray e (0,0))→Mod (fun k=>k=g) w w'→w'.heap.size=w.heap.size→K (a.put o.dst undef) w'):if Region.wanted o (yielded ops a.tmps)=true then Oper.wp P o a w K Q else E:=by
 have hw:Region.wanted o (yielded ops a.tmps)=true:=by simp[Region.wanted,hgd]
 rw[if_pos hw]
 unfold Oper.wp execOp
 simp only[ho,hp,hx,Sem.run_bind,Sem.run_pure,zjE hs hg hc hfit h1,Result.andThen_ok]
 refine h _ ?_ ?_ ?_
 · rw[hcur];exact setRow_heap w g _ _ e _ hg
 · exact ⟨rfl,rfl,rfl,by simp,fun k hk hn=>setRow_other w g k _ hn⟩
 simp
end
end Go.Proofs.YtjbkjhhjofeldaaGreat
