/-
 Lists of pairs in memory. No program is walked here. Conditions: as each theorem names them.
-/
import Derived.Test.YtjbkjhhjofeldaaGreatG8
namespace Go.Proofs.YtjbkjhhjofeldaaGreat
def Prs (w:World) (T:Nat→Prop) (v:Value) (l:List zJ):Prop:=Sl w T 4 v l.length (l.flatMap zJ.cells)∧∀ x∈l,x.ok
theorem Prs.mod {w w':World} {S T:Nat→Prop} {v:Value} {l:List zJ} (h:Prs w T v l) (hm:Mod S w w') (hd:∀ g,T g→¬ S g):Prs w' T v l:=⟨h.1.mod hm hd,h.2⟩
theorem Prs.ext {w w':World} {T:Nat→Prop} {v:Value} {l:List zJ} (h:Prs w T v l) (hm:Ext w w'):Prs w' T v l:=h.mod hm (fun _ _=>id)
theorem Prs.at {w:World} {T:Nat→Prop} {A:Option Addr} {n c:Nat} {l:List zJ} (h:Prs w T (.slice A n c) l) {i:Nat} (hi:i<n):
  ∃ g off x,A=some ⟨g,off,none⟩∧T g∧l[i]? = some x∧x.ok∧∀ j u,x.cells[j]? = some u→w.cell? ⟨g,off+i*4+j,none⟩=some u:=by
 obtain ⟨⟨hl,A',c',e,hn,hc,hx⟩,hf⟩:=h
 injection e with e1 e2 e3;subst e1;subst e2;subst e3
 obtain ⟨g,off,rfl,hT,hcell⟩:=hx (by omega)
 have hget:l[i]? = some l[i]:=List.getElem?_eq_getElem hi
 refine ⟨g,off,l[i],rfl,hT,hget,hf _ (List.getElem_mem hi),fun j u hu=>?_⟩
 have hj:j<4:=(List.getElem?_eq_some_iff.1 hu).1
 rw[Nat.add_assoc]
 exact hcell _ u (by rw[zdI (k:=4) (fun _=>rfl) l i j _ hget hj];exact hu)
theorem Prs.len {w:World} {T:Nat→Prop} {A:Option Addr} {n c:Nat} {l:List zJ} (h:Prs w T (.slice A n c) l):l.length=n∧n≤maxLen:=by
 have hl:=h.1.le
 obtain ⟨⟨_,_,_,e,_⟩,_⟩:=h
 injection e with _ e _
 exact ⟨e.symm,by omega⟩
theorem Prs.form {w:World} {T:Nat→Prop} {v:Value} {l:List zJ} (h:Prs w T v l):∃ A c,v=.slice A l.length c:=by
 obtain ⟨⟨_,A,c,e,_⟩,_⟩:=h
 exact ⟨A,c,e⟩
def zg7 (w w':World) (v:Value) (l:List zJ):Prop:=w'.ownsRow 0 122 4 v l.length (l.flatMap zJ.cells)∧(∀ x∈l,x.ok)∧∀ g,v.ownBlock=some g→w.heap.size≤g
theorem zg7.prs {w w':World} {v:Value} {l:List zJ} (h:zg7 w w' v l):Prs w' (fun g=>v.ownBlock=some g) v l:=⟨Sl.of_own h.1 (fun _ h=>h),h.2.1⟩
def zgL (a b:zJ):Bool:=eqT a.key b.key&&zbD a.val b.val
end Go.Proofs.YtjbkjhhjofeldaaGreat
