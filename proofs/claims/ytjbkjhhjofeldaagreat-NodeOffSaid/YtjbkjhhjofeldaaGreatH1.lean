/-
  Plain functions: what the page says of sessions, machines and calls; lists of sessions in memory. No program is walked here. Conditions: as each theorem names them.
-/
import Derived.Test.YtjbkjhhjofeldaaGreatG3
import Derived.Test.YtjbkjhhjofeldaaGreatH0
namespace Go.Proofs.YtjbkjhhjofeldaaGreat
structure zR where
  client:Int
  seq:Int
  reply:yH
structure jK where
  pairs:List zJ
  sess:List zR
abbrev zR.cells (s:zR):List Value:=[.int .i64 s.client,.int .i64 s.seq,.int .i64 s.reply.code,.int .i64 s.reply.val.kind,.float .f64 s.reply.val.num,.string s.reply.val.text]
def zR.ok (s:zR):Prop:=I64 s.client∧I64 s.seq∧s.reply.ok
def yH.zero:yH:=⟨0,yO.zero⟩
def zaE (s:zR):Bool:=zeX s.client s.seq&&decide (0≤s.reply.code)&&decide (s.reply.code≤16)&&chk s.reply.val==0
def zdA:List zR→Bool
  | []=>true
  | [_]=>true
  | a :: b :: l=>decide (a.client<b.client)&&zdA (b :: l)
def zgM (l:List zR):Bool:=l.all zaE&&zdA l
def jU (m:jK):Bool:=xG m.pairs&&zgM m.sess
def yJ:List zR→Int→Int×yH
  | [],_=>(0,yH.zero)
  | s :: l,k=>if s.client=k then (s.seq,s.reply) else yJ l k
def zhQ (x:zR):Bool→List zR→List zR
  | d,[]=>if d then [] else [x]
  | d,s :: l=>
    if d=false∧x.client≤s.client then x :: (if s.client=x.client then zhQ x true l else s :: zhQ x true l)
    else if s.client=x.client then zhQ x d l else s :: zhQ x d l
def zdB (m:jK) (c:zW):jK×yH:=
  if yX c≠0 then (m,⟨yX c,yO.zero⟩)
  else if jU m=false then (m,⟨6,yO.zero⟩)
  else if c.seq=(yJ m.sess c.client).1 then (m,(yJ m.sess c.client).2)
  else if c.seq<(yJ m.sess c.client).1 then (m,⟨10,yO.zero⟩)
  else (⟨(doP m.pairs c.cmd).1,zhQ ⟨c.client,c.seq,(doP m.pairs c.cmd).2⟩ false m.sess⟩,(doP m.pairs c.cmd).2)
def Ses (w:World) (T:Nat→Prop) (v:Value) (l:List zR):Prop:=Sl w T 6 v l.length (l.flatMap zR.cells)∧∀ x∈l,x.ok
theorem Ses.mod {w w':World} {S T:Nat→Prop} {v:Value} {l:List zR} (h:Ses w T v l) (hm:Mod S w w') (hd:∀ g,T g→¬ S g):Ses w' T v l:=⟨h.1.mod hm hd,h.2⟩
theorem Ses.ext {w w':World} {T:Nat→Prop} {v:Value} {l:List zR} (h:Ses w T v l) (hm:Ext w w'):Ses w' T v l:=h.mod hm (fun _ _=>id)
theorem Ses.at {w:World} {T:Nat→Prop} {A:Option Addr} {n c:Nat} {l:List zR} (h:Ses w T (.slice A n c) l) {i:Nat} (hi:i<n):
    ∃ g off x,A=some ⟨g,off,none⟩∧T g∧l[i]? = some x∧x.ok∧∀ j u,x.cells[j]? = some u→w.cell? ⟨g,off+i*6+j,none⟩=some u:=by
  obtain ⟨⟨hl,A',c',e,hn,hc,hx⟩,hf⟩:=h
  injection e with e1 e2 e3;subst e1;subst e2;subst e3
  obtain ⟨g,off,rfl,hT,hcell⟩:=hx (by omega)
  have hget:l[i]? = some l[i]:=List.getElem?_eq_getElem hi
  refine ⟨g,off,l[i],rfl,hT,hget,hf _ (List.getElem_mem hi),fun j u hu=>?_⟩
  have hj:j<6:=(List.getElem?_eq_some_iff.1 hu).1
  rw[Nat.add_assoc]
  exact hcell _ u (by rw[zdI (k:=6) (fun _=>rfl) l i j _ hget hj];exact hu)
theorem Ses.form {w:World} {T:Nat→Prop} {v:Value} {l:List zR} (h:Ses w T v l):∃ A c,v=.slice A l.length c:=by
  obtain ⟨⟨_,A,c,e,_⟩,_⟩:=h
  exact ⟨A,c,e⟩
theorem Ses.low {w:World} {T:Nat→Prop} {g off n c:Nat} {l:List zR} (h:Ses w T (.slice (some ⟨g,off,none⟩) n c) l) (hn:0<n):g<w.heap.size:=by
  obtain ⟨g',off',x,hA,_,_,_,hcells⟩:=h.at hn
  injection hA with hA;injection hA with hA1 hA2;subst hA1;subst hA2
  exact World.block_lt_of_cell? _ _ (hcells 0 _ rfl)
def zj0 (w w':World) (v:Value) (l:List zR):Prop:=w'.ownsRow 0 125 6 v l.length (l.flatMap zR.cells)∧(∀ x∈l,x.ok)∧∀ g,v.ownBlock=some g→w.heap.size≤g
theorem zj0.ses {w w':World} {v:Value} {l:List zR} (h:zj0 w w' v l):Ses w' (fun g=>v.ownBlock=some g) v l:=⟨Sl.of_own h.1 (fun _ h=>h),h.2.1⟩
theorem zhR {l:List zR} {i:Nat} {x:zR} (k:Int) (h:l[i]? = some x):yJ (l.drop i) k=if x.client=k then (x.seq,x.reply) else yJ (l.drop (i+1)) k:=by
  obtain ⟨hi,rfl⟩:=List.getElem?_eq_some_iff.1 h
  rw[List.drop_eq_getElem_cons hi]
  rfl
theorem zgN:(Tryz.prog.info? 125).map (fun i=>(i.zero,i.size,i.bytes))=some (some (.agg #[.int .i64 0,.int .i64 0,.int .i64 0,.int .i64 0,.float .f64 0,.string ⟨#[]⟩]),6,56):=by kernel_rfl
theorem zk1 (l:List zR):∀ u∈l.flatMap zR.cells,u.oneCell'=true:=by
  intro u hu
  obtain ⟨p,_,hp⟩:=List.mem_flatMap.1 hu
  simp only[zR.cells,List.mem_cons,List.not_mem_nil,or_false] at hp
  rcases hp with rfl|rfl|rfl|rfl|rfl|rfl <;> rfl
end Go.Proofs.YtjbkjhhjofeldaaGreat
