/-
 Layer 22 (node): (*raft.replica).stand and tick of a node alone. Conditions: as each theorem names them.
-/
import Derived.Test.YtjbkjhhjofeldaaGreatG19
set_option maxRecDepth 100000
set_option maxHeartbeats 2000000
namespace Go.Proofs.YtjbkjhhjofeldaaGreat
set_option linter.unusedSimpArgs false
set_option linter.unusedVariables false
open Go.RowKit
theorem zdL.now {h h':zX} (hl:zdL h) (h1:h'.conf=h.conf:=by rfl) (h2:h'.log=h.log:=by rfl) (h3:h'.base=h.base:=by rfl):zdL h':=⟨⟨h1▸hl.alone.conf,h2▸hl.alone.none⟩,h2▸hl.few,h3▸hl.base⟩
def zS.stood (r:zS):zS:={ r with hard:={ r.hard with term:=r.hard.term+1,vote:=0 },role:=2,votes:=1,lead:= -1,wait:=6 }
theorem r_stand (w0 w:World) (q:Nat) (sv lv rv:Value) (r:zS) (hR:Rep w0 w q sv lv rv r []) (hl:zdL r.hard) (hrv:∃ A c,rv=.slice A 0 c) (hn:r.hard.log.length<1000) (hc:r.hard.base≤r.commit∧r.commit≤r.last) (ht:0≤r.hard.term∧r.hard.term<1099511627776) (h0:r.id=0) (hrd:0≤r.round∧r.round<1000000):Calls Tryz.prog 205 #[.pointer (some ⟨q,0,none⟩)] w (zkY w0 w q sv r.stood.led):=by
 obtain ⟨As,sn,cs,rfl⟩:∃ A n c,sv=.slice A n c:=⟨_,_,zC hR.hard.1.1 |>.choose_spec⟩
 obtain ⟨Al,ln,cl,rfl⟩:∃ A n c,lv=.slice A n c:=⟨_,_,zC hR.hard.2.1 |>.choose_spec⟩
 obtain ⟨Ra,rc,rfl⟩:=hrv
 have HR0:=hJ hR
 have HM0:=hJ (Mod.refl (zD w0.heap.size) w)
 have Hq0:=hJ hR.box
 have Hqn:∀ k,k=q→w0.heap.size≤k:=fun k e=>e▸HR0.out.new
 obtain ⟨Hl,Hn,Hc,Ht,H0,Hrd⟩:=hJ6 hl hn hc ht h0 hrd
 have d0:(r.hard.term==1099511627776)=false:=by have:=ht.2;simp;omega
 have d1:r.hard.term+1≤1099511627776:=by have:=ht.2;omega
 have d2:1≤r.hard.term+1:=by have:=ht.1;omega
 clear hR hl hn hc ht h0 hrd
 go_enter Tryz.func205,Tryz.ntmps205
 go_upto_region 2 with (first
  | (refine zK ?_;first
    | (refine lD 3 q 1 (zL zQ Hq0.out rfl) ?_)))
 go_upto_region 3 with (first
  | (refine zK ?_;first
    | (refine lD 3 q 1 (zL zQ Hq0.out rfl) ?_))
  | (refine zF ?_;first
    | (refine stQ rfl 3 _ _ rfl 1 q 1 (.int .i64 (r.hard.term+1)) [.int .i64 (r.hard.term+1)] zQ.size _ _ (({ r with hard:={ r.hard with term:=r.hard.term+1 } }:zS).cells (.slice As sn cs) (.slice Al ln cl) (.slice Ra 0 rc)++[Value.slice none 0 0]) Hq0.out rfl ?_;intro W1 hbW1 hmW1 hsW1)))
 have HRW1:=hJ (show Rep w0 W1 q (.slice As sn cs) (.slice Al ln cl) (.slice Ra 0 rc) ({ r with hard:={ r.hard with term:=r.hard.term+1 } }:zS) [] from HR0.out.turn hmW1 hbW1 rfl rfl)
 have HMW1:=hJ (HM0.out.trans hmW1 (fun k _ e=>Hqn k e))
 have HqW1:=hJ HRW1.out.box
 clear hbW1 hmW1 hsW1
 obtain ⟨W2,hW2⟩:∃ W,W1.drew=W:=⟨_,rfl⟩
 have hE2:Ext W1 W2:=hW2▸(Mod.refl _ W1).drew
 have HRW2:=hJ (HRW1.out.ext hE2)
 have HMW2:=hJ (HMW1.out.ext hE2)
 clear hE2
 refine yZ (fun W=>W.heap[q]? = some (.cells (({ r with hard:={ r.hard with term:=r.hard.term+1 } }:zS).cells (.slice As sn cs) (.slice Al ln cl) (.slice Ra 0 rc)++[Value.slice none 0 0]).toArray 178 (0,0))) 15 (hW2▸HRW2.out.box) (fun hS=>?_)
 rw[hW2] at hS ⊢
 clear hW2
 iterate 8
  (first|refine tP 0 28 ?_ hS (fun W'=>?_) ?_|refine tP 1 29 ?_ hS (fun W'=>?_) ?_|refine tP 2 30 ?_ hS (fun W'=>?_) ?_|refine tP 3 31 ?_ hS (fun W'=>?_) ?_|refine tP 4 32 ?_ hS (fun W'=>?_) ?_|refine tP 5 33 ?_ hS (fun W'=>?_) ?_|refine tP 6 34 ?_ hS (fun W'=>?_) ?_|refine tP 7 35 ?_ hS (fun W'=>?_) ?_);rotate_left;· go_simp;try rfl
  try simp only[pL]
 refine tU 8 36 (.int .i64 0) hS q 0 (fun W' hX1=>zL zQ hX1 (show some (Value.int .i64 r.id)=_ by rw[H0.out])) ?_
 try simp only[pL]
 refine tP 9 37 ?_ hS (fun W'=>?_) ?_;rotate_left;· go_simp;try rfl
 try simp only[pL]
 refine jP 10 (fun K hK=>?_)
 go_simp
 go_wp2_with fail
 refine (r_bit _ q ({ r with hard:={ r.hard with term:=r.hard.term+1 } }:zS) (.slice As sn cs) (.slice Al ln cl) (.slice Ra 0 rc) _ _ hS H0.out).mono ?_
 rintro e wb ⟨rfl,rfl⟩
 have hX:=hS
 go_simp
 refine hK.out _ _ hX (fun hS=>?_)
 clear hK K hX
 try simp only[pL]
 iterate 4
  (first|refine tP 11 39 ?_ hS (fun W'=>?_) ?_|refine tP 12 40 ?_ hS (fun W'=>?_) ?_|refine tP 13 41 ?_ hS (fun W'=>?_) ?_|refine tP 14 42 ?_ hS (fun W'=>?_) ?_);rotate_left;· go_simp;try rfl
  try simp only[pL]
 refine xN 15 rfl ?_
 simp only[List.drop_succ_cons,List.drop_zero]
 have HqW2:=hJ hS
 clear hS
 go_upto_region 4 with (first
  | (refine zF ?_;first
    | (refine stQ rfl 3 _ _ rfl 1 q 2 (.int .i64 0) [.int .i64 0] zQ.size _ _ (({ r with hard:={ r.hard with term:=r.hard.term+1,vote:=0 } }:zS).cells (.slice As sn cs) (.slice Al ln cl) (.slice Ra 0 rc)++[Value.slice none 0 0]) HqW2.out rfl ?_;intro W3 hbW3 hmW3 hsW3;have HqW3:=hJ hbW3)
    | (refine stQ rfl 3 _ _ rfl 1 q 12 (.int .i64 2) [.int .i64 2] zQ.size _ _ (({ r with hard:={ r.hard with term:=r.hard.term+1,vote:=0 },role:=2 }:zS).cells (.slice As sn cs) (.slice Al ln cl) (.slice Ra 0 rc)++[Value.slice none 0 0]) HqW3.out rfl ?_;intro W4 hbW4 hmW4 hsW4;have HqW4:=hJ hbW4)
    | (refine stQ rfl 3 _ _ rfl 1 q 16 (.int .i64 1) [.int .i64 1] zQ.size _ _ (({ r with hard:={ r.hard with term:=r.hard.term+1,vote:=0 },role:=2,votes:=1 }:zS).cells (.slice As sn cs) (.slice Al ln cl) (.slice Ra 0 rc)++[Value.slice none 0 0]) HqW4.out rfl ?_;intro W5 hbW5 hmW5 hsW5;have HqW5:=hJ hbW5)
    | (refine stQ rfl 3 _ _ rfl 1 q 13 (.int .i64 (-1)) [.int .i64 (-1)] zQ.size _ _ (({ r with hard:={ r.hard with term:=r.hard.term+1,vote:=0 },role:=2,votes:=1,lead:= -1 }:zS).cells (.slice As sn cs) (.slice Al ln cl) (.slice Ra 0 rc)++[Value.slice none 0 0]) HqW5.out rfl ?_;intro W6 hbW6 hmW6 hsW6)))
 have hm36:=((hmW3.self hmW4).self hmW5).self hmW6
 have HRW6:=hJ (show Rep w0 W6 q (.slice As sn cs) (.slice Al ln cl) (.slice Ra 0 rc) ({ r with hard:={ r.hard with term:=r.hard.term+1,vote:=0 },role:=2,votes:=1,lead:= -1 }:zS) [] from HRW2.out.turn hm36 hbW6 rfl rfl)
 have HMW6:=hJ (HMW2.out.trans hm36 (fun k _ e=>Hqn k e))
 have HqW6:=hJ HRW6.out.box
 clear hbW3 hmW3 hsW3 hbW4 hmW4 hsW4 hbW5 hmW5 hsW5 hbW6 hmW6 hsW6 hm36 HqW3 HqW4 HqW5 HqW2
 obtain ⟨W7d,hW7d⟩:∃ W,W6.drew=W:=⟨_,rfl⟩
 have hEW7d:Ext W6 W7d:=hW7d▸(Mod.refl _ W6).drew
 have HRW7d:=hJ (HRW6.out.ext hEW7d)
 have HMW7d:=hJ (HMW6.out.ext hEW7d)
 clear hEW7d
 refine yZ (fun W=>Ext W7d W) 15 (hW7d▸(Mod.refl _ _)) (fun hS=>?_)
 rw[hW7d] at hS ⊢
 clear hW7d
 iterate 4
  (first|refine tP 0 52 ?_ hS (fun W'=>?_) ?_|refine tP 1 53 ?_ hS (fun W'=>?_) ?_|refine tP 2 54 ?_ hS (fun W'=>?_) ?_|refine tP 3 55 ?_ hS (fun W'=>?_) ?_);rotate_left;· go_simp;try rfl
  try simp only[pL]
 refine tU 4 56 (.agg (({ r with hard:={ r.hard with term:=r.hard.term+1,vote:=0 },role:=2,votes:=1,lead:= -1 }:zS).cells (.slice As sn cs) (.slice Al ln cl) (.slice Ra 0 rc)).toArray) hS q 0 (fun W' hW'=>zb9 (hW'.blk HRW7d.out.box id)) ?_
 try simp only[pL]
 iterate 4
  (first|refine tP 6 58 ?_ hS (fun W'=>?_) ?_|refine tP 7 59 ?_ hS (fun W'=>?_) ?_|refine tP 8 60 ?_ hS (fun W'=>?_) ?_|refine tP 9 61 ?_ hS (fun W'=>?_) ?_);rotate_left;· go_simp;try rfl
  try simp only[pL]
 refine tU 10 62 (.int .i64 0) hS q 0 (fun W' hW'=>zL zQ (hW'.blk HRW7d.out.box id) (show some (Value.int .i64 r.id)=_ by rw[H0.out])) ?_
 try simp only[pL]
 refine jP 5 (fun K hK=>?_)
 go_simp
 go_wp2_with fail
 refine (zcJ ({ r with hard:={ r.hard with term:=r.hard.term+1,vote:=0 },role:=2,votes:=1,lead:= -1 }:zS) (.slice As sn cs) (.slice Al ln cl) Ra 0 rc _ _ (HRW7d.out.hard.mem.ext hS) Hl.out.now).mono ?_
 rintro e wf ⟨rfl,hEf⟩
 have hX:=hS.ext hEf
 go_simp
 refine hK.out _ _ hX (fun hS=>?_)
 clear hK K hX
 try simp only[pL]
 refine jP 11 (fun K hK=>?_)
 go_simp
 go_wp2_with fail
 refine (ziK _).mono ?_
 rintro e wg ⟨rfl,hEg⟩
 have hX:=hS.ext hEg
 go_simp
 refine hK.out _ _ hX (fun hS=>?_)
 clear hK K hX
 try simp only[pL]
 iterate 3
  (first|refine tP 12 64 ?_ hS (fun W'=>?_) ?_|refine tP 13 65 ?_ hS (fun W'=>?_) ?_|refine tP 14 66 ?_ hS (fun W'=>?_) ?_);rotate_left;· go_simp;try rfl
  try simp only[pL]
 refine xN 15 rfl ?_
 simp only[List.drop_succ_cons,List.drop_zero]
 have HRW7e:=hJ (HRW7d.out.ext hS)
 have HMW7e:=hJ (HMW7d.out.ext hS)
 have HqW7e:=hJ HRW7e.out.box
 clear hS hEf hEg
 go_upto_region 5 with (first
  | (refine zF ?_;first
    | (refine stQ rfl 3 _ _ rfl 1 q 14 (.int .i64 6) [.int .i64 6] zQ.size _ _ (r.stood.cells (.slice As sn cs) (.slice Al ln cl) (.slice Ra 0 rc)++[Value.slice none 0 0]) HqW7e.out rfl ?_;intro W8 hbW8 hmW8 hsW8)))
 have HR8:=hJ (show Rep w0 W8 q (.slice As sn cs) (.slice Al ln cl) (.slice Ra 0 rc) r.stood [] from HRW7e.out.turn hmW8 hbW8 rfl rfl)
 have HM8:=hJ (HMW7e.out.trans hmW8 (fun k _ e=>Hqn k e))
 clear hbW8 hmW8 hsW8
 go_wp2_with (first
  | (refine zK ?_;refine lD 65 q 0 (zb9 HR8.out.box) ?_)
  | (go_at_call 204;refine (zpF r.stood _ _ Ra 0 rc _ _ HR8.out.hard.mem Hl.out.now rfl).mono ?_;rintro e w9 ⟨rfl,hE9⟩)
  | (go_at_call 255;refine (r_lead w0 w9 q _ _ _ r.stood (HR8.out.ext hE9) Hl.out.now Hn.out Hc.out (by have:=Ht.out;show 0≤r.hard.term+1∧r.hard.term+1≤_;omega) H0.out Hrd.out).mono ?_;rintro e w10 ⟨rfl,lv10,hR10,hM10⟩))
 go_end0
 exact ⟨rfl,lv10,hR10,(HM8.out.ext hE9).trans hM10 (fun k _ h=>h)⟩
def zS.ticked (r:zS):zS:={ r with quiet:=r.quiet+1,wait:=r.wait-1 }
def zS.asked (r:zS):zS:={ r with quiet:=r.quiet+1,role:=1,lead:= -1,votes:=1,wait:=6 }
def TickWait (w0 w:World) (q:Nat) (sv lv rv:Value) (r:zS) (e:Ending) (w':World):Prop:=e=.returned (.tuple #[])∧Rep w0 w' q sv lv rv r []∧Mod (zD w0.heap.size) w w'
theorem zkZ (w0 w:World) (q:Nat) (sv lv rv:Value) (r:zS) (hR:Rep w0 w q sv lv rv r []) (hl:zdL r.hard) (hrv:∃ A c,rv=.slice A 0 c) (hn:r.hard.log.length<1000) (hc:r.hard.base≤r.commit∧r.commit≤r.last) (ht:0≤r.hard.term∧r.hard.term<1099511627776) (h0:r.id=0) (hrd:0≤r.round∧r.round<1000000) (hqu:0≤r.quiet∧r.quiet<1000000) (hw:1<r.wait∧r.wait≤100):Calls Tryz.prog 127 #[.pointer (some ⟨q,0,none⟩)] w (TickWait w0 w q sv lv rv r.ticked):=by
 obtain ⟨As,sn,cs,rfl⟩:∃ A n c,sv=.slice A n c:=⟨_,_,zC hR.hard.1.1 |>.choose_spec⟩
 obtain ⟨Al,ln,cl,rfl⟩:∃ A n c,lv=.slice A n c:=⟨_,_,zC hR.hard.2.1 |>.choose_spec⟩
 obtain ⟨Ra,rc,rfl⟩:=hrv
 have HR0:=hJ hR
 have HM0:=hJ (Mod.refl (zD w0.heap.size) w)
 have Hq0:=hJ hR.box
 have Hqn:∀ k,k=q→w0.heap.size≤k:=fun k e=>e▸HR0.out.new
 obtain ⟨Hl,Hn,Hc,Ht,H0,Hrd⟩:=hJ6 hl hn hc ht h0 hrd
 obtain ⟨hqu0,hqu1⟩:=hqu
 have d1:r.quiet+1≤1099511627776:=by omega
 have d2:¬ 1099511627776<r.quiet+1:=by omega
 obtain ⟨hw1,hw2⟩:=hw
 have d3:0<r.wait-1:=by omega
 have d4:¬ r.wait-1<0:=by omega
 have d5:0≤r.wait-1:=by omega
 clear hR hl hn hc ht h0 hrd
 go_enter Tryz.func127,Tryz.ntmps127
 go_upto_region 1 with (first
  | (refine zK ?_;first
    | (refine lD 3 q 15 (zL zQ Hq0.out rfl) ?_))
  | (refine zF ?_;first
    | (refine stQ rfl 3 _ _ rfl 1 q 15 (.int .i64 (r.quiet+1)) [.int .i64 (r.quiet+1)] zQ.size _ _ (({ r with quiet:=r.quiet+1 }:zS).cells (.slice As sn cs) (.slice Al ln cl) (.slice Ra 0 rc)++[Value.slice none 0 0]) Hq0.out rfl ?_;intro W1 hbW1 hmW1 hsW1)))
 have HRW1:=hJ (show Rep w0 W1 q (.slice As sn cs) (.slice Al ln cl) (.slice Ra 0 rc) ({ r with quiet:=r.quiet+1 }:zS) [] from HR0.out.turn hmW1 hbW1 rfl rfl)
 have HMW1:=hJ (HM0.out.trans hmW1 (fun k _ e=>Hqn k e))
 have HqW1:=hJ HRW1.out.box
 clear hbW1 hmW1 hsW1
 go_upto_region 2 with (first
  | (refine zK ?_;refine lD 65 q 0 (zb9 HqW1.out) ?_)
  | (go_at_call 201;refine (zl6 ({ r with quiet:=r.quiet+1 }:zS) _ _ Ra 0 rc _ _ HRW1.out.hard.mem Hl.out.now H0.out).mono ?_;rintro e w2 ⟨rfl,hE2⟩))
 have HR2:=hJ (HRW1.out.ext hE2)
 have HM2:=hJ (HMW1.out.ext hE2)
 have Hq2:=hJ HR2.out.box
 clear hE2
 go_upto_region 3 with (first
  | (refine zK ?_;first
    | (refine lD 3 q 14 (zL zQ Hq2.out rfl) ?_))
  | (refine zF ?_;first
    | (refine stQ rfl 3 _ _ rfl 1 q 14 (.int .i64 (r.wait-1)) [.int .i64 (r.wait-1)] zQ.size _ _ (({ r with quiet:=r.quiet+1,wait:=r.wait-1 }:zS).cells (.slice As sn cs) (.slice Al ln cl) (.slice Ra 0 rc)++[Value.slice none 0 0]) Hq2.out rfl ?_;intro W3 hbW3 hmW3 hsW3)))
 have HRW3:=hJ (show Rep w0 W3 q (.slice As sn cs) (.slice Al ln cl) (.slice Ra 0 rc) ({ r with quiet:=r.quiet+1,wait:=r.wait-1 }:zS) [] from HR2.out.turn hmW3 hbW3 rfl rfl)
 have HMW3:=hJ (HM2.out.trans hmW3 (fun k _ e=>Hqn k e))
 have HqW3:=hJ HRW3.out.box
 clear hbW3 hmW3 hsW3
 go_wp2_with (first
  | (refine zK ?_;first
    | (refine lD 3 q 14 (zL zQ HqW3.out rfl) ?_)))
 go_end0
 exact ⟨rfl,HRW3.out,HMW3.out⟩
theorem zm8 (w0 w:World) (q:Nat) (sv lv rv:Value) (r:zS) (hR:Rep w0 w q sv lv rv r []) (hl:zdL r.hard) (hrv:∃ A c,rv=.slice A 0 c) (hn:r.hard.log.length<1000) (hc:r.hard.base≤r.commit∧r.commit≤r.last) (ht:0≤r.hard.term∧r.hard.term<1099511627776) (h0:r.id=0) (hrd:0≤r.round∧r.round<1000000) (hqu:0≤r.quiet∧r.quiet<1000000) (hw:r.wait=1):Calls Tryz.prog 127 #[.pointer (some ⟨q,0,none⟩)] w (zkY w0 w q sv r.asked.stood.led):=by
 obtain ⟨As,sn,cs,rfl⟩:∃ A n c,sv=.slice A n c:=⟨_,_,zC hR.hard.1.1 |>.choose_spec⟩
 obtain ⟨Al,ln,cl,rfl⟩:∃ A n c,lv=.slice A n c:=⟨_,_,zC hR.hard.2.1 |>.choose_spec⟩
 obtain ⟨Ra,rc,rfl⟩:=hrv
 have HR0:=hJ hR
 have HM0:=hJ (Mod.refl (zD w0.heap.size) w)
 have Hq0:=hJ hR.box
 have Hqn:∀ k,k=q→w0.heap.size≤k:=fun k e=>e▸HR0.out.new
 obtain ⟨Hl,Hn,Hc,Ht,H0,Hrd⟩:=hJ6 hl hn hc ht h0 hrd
 obtain ⟨hqu0,hqu1⟩:=hqu
 have d1:r.quiet+1≤1099511627776:=by omega
 have d2:¬ 1099511627776<r.quiet+1:=by omega
 have Hw:=hJ hw
 clear hw hR hl hn hc ht h0 hrd
 go_enter Tryz.func127,Tryz.ntmps127
 go_upto_region 1 with (first
  | (refine zK ?_;first
    | (refine lD 3 q 15 (zL zQ Hq0.out rfl) ?_))
  | (refine zF ?_;first
    | (refine stQ rfl 3 _ _ rfl 1 q 15 (.int .i64 (r.quiet+1)) [.int .i64 (r.quiet+1)] zQ.size _ _ (({ r with quiet:=r.quiet+1 }:zS).cells (.slice As sn cs) (.slice Al ln cl) (.slice Ra 0 rc)++[Value.slice none 0 0]) Hq0.out rfl ?_;intro W1 hbW1 hmW1 hsW1)))
 have HRW1:=hJ (show Rep w0 W1 q (.slice As sn cs) (.slice Al ln cl) (.slice Ra 0 rc) ({ r with quiet:=r.quiet+1 }:zS) [] from HR0.out.turn hmW1 hbW1 rfl rfl)
 have HMW1:=hJ (HM0.out.trans hmW1 (fun k _ e=>Hqn k e))
 have HqW1:=hJ HRW1.out.box
 clear hbW1 hmW1 hsW1
 go_upto_region 2 with (first
  | (refine zK ?_;refine lD 65 q 0 (zb9 HqW1.out) ?_)
  | (go_at_call 201;refine (zl6 ({ r with quiet:=r.quiet+1 }:zS) _ _ Ra 0 rc _ _ HRW1.out.hard.mem Hl.out.now H0.out).mono ?_;rintro e w2 ⟨rfl,hE2⟩))
 have HR2:=hJ (HRW1.out.ext hE2)
 have HM2:=hJ (HMW1.out.ext hE2)
 have Hq2:=hJ HR2.out.box
 clear hE2
 go_upto_region 3 with (first
  | (refine zK ?_;first
    | (refine lD 3 q 14 (zL zQ Hq2.out (show some (Value.int .i64 r.wait)=some (.int .i64 1) by rw[Hw.out])) ?_))
  | (refine zF ?_;first
    | (refine stQ rfl 3 _ _ rfl 1 q 14 (.int .i64 0) [.int .i64 0] zQ.size _ _ (({ r with quiet:=r.quiet+1,wait:=0 }:zS).cells (.slice As sn cs) (.slice Al ln cl) (.slice Ra 0 rc)++[Value.slice none 0 0]) Hq2.out rfl ?_;intro W3 hbW3 hmW3 hsW3)))
 have HRW3:=hJ (show Rep w0 W3 q (.slice As sn cs) (.slice Al ln cl) (.slice Ra 0 rc) ({ r with quiet:=r.quiet+1,wait:=0 }:zS) [] from HR2.out.turn hmW3 hbW3 rfl rfl)
 have HMW3:=hJ (HM2.out.trans hmW3 (fun k _ e=>Hqn k e))
 have HqW3:=hJ HRW3.out.box
 clear hbW3 hmW3 hsW3
 go_upto_region 4 with (first
  | (refine zK ?_;first
    | (refine lD 3 q 14 (zL zQ HqW3.out rfl) ?_)))
 go_upto_region 5 with (first
  | (go_at_call 199;refine (r_bit _ q ({ r with quiet:=r.quiet+1,wait:=0 }:zS) _ _ _ _ _ HqW3.out H0.out).mono ?_;rintro e w4 ⟨rfl,rfl⟩)
  | (refine zF ?_;first
   | (refine stQ rfl 3 _ _ rfl 1 q 12 (.int .i64 1) [.int .i64 1] zQ.size _ _ (({ r with quiet:=r.quiet+1,wait:=0,role:=1 }:zS).cells (.slice As sn cs) (.slice Al ln cl) (.slice Ra 0 rc)++[Value.slice none 0 0]) HqW3.out rfl ?_;intro W4 hbW4 hmW4 hsW4;have HqW4:=hJ hbW4)
   | (refine stQ rfl 3 _ _ rfl 1 q 13 (.int .i64 (-1)) [.int .i64 (-1)] zQ.size _ _ (({ r with quiet:=r.quiet+1,wait:=0,role:=1,lead:= -1 }:zS).cells (.slice As sn cs) (.slice Al ln cl) (.slice Ra 0 rc)++[Value.slice none 0 0]) HqW4.out rfl ?_;intro W5 hbW5 hmW5 hsW5;have HqW5:=hJ hbW5)
   | (refine stQ rfl 3 _ _ rfl 1 q 16 (.int .i64 1) [.int .i64 1] zQ.size _ _ (({ r with quiet:=r.quiet+1,wait:=0,role:=1,lead:= -1,votes:=1 }:zS).cells (.slice As sn cs) (.slice Al ln cl) (.slice Ra 0 rc)++[Value.slice none 0 0]) HqW5.out rfl ?_;intro W6 hbW6 hmW6 hsW6)))
 have hm36:=(hmW4.self hmW5).self hmW6
 have HRW6:=hJ (show Rep w0 W6 q (.slice As sn cs) (.slice Al ln cl) (.slice Ra 0 rc) ({ r with quiet:=r.quiet+1,wait:=0,role:=1,lead:= -1,votes:=1 }:zS) [] from HRW3.out.turn hm36 hbW6 rfl rfl)
 have HMW6:=hJ (HMW3.out.trans hm36 (fun k _ e=>Hqn k e))
 have HqW6:=hJ HRW6.out.box
 clear hbW4 hmW4 hsW4 hbW5 hmW5 hsW5 hbW6 hmW6 hsW6 hm36 HqW3 HqW4 HqW5
 obtain ⟨W7d,hW7d⟩:∃ W,W6.drew=W:=⟨_,rfl⟩
 have hEW7d:Ext W6 W7d:=hW7d▸(Mod.refl _ W6).drew
 have HRW7d:=hJ (HRW6.out.ext hEW7d)
 have HMW7d:=hJ (HMW6.out.ext hEW7d)
 clear hEW7d
 refine yZ (fun W=>Ext W7d W) 15 (hW7d▸(Mod.refl _ _)) (fun hS=>?_)
 rw[hW7d] at hS ⊢
 clear hW7d
 iterate 4
  (first|refine tP 0 50 ?_ hS (fun W'=>?_) ?_|refine tP 1 51 ?_ hS (fun W'=>?_) ?_|refine tP 2 52 ?_ hS (fun W'=>?_) ?_|refine tP 3 53 ?_ hS (fun W'=>?_) ?_);rotate_left;· go_simp;try rfl
  try simp only[pL]
 refine tU 4 54 (.agg (({ r with quiet:=r.quiet+1,wait:=0,role:=1,lead:= -1,votes:=1 }:zS).cells (.slice As sn cs) (.slice Al ln cl) (.slice Ra 0 rc)).toArray) hS q 0 (fun W' hW'=>zb9 (hW'.blk HRW7d.out.box id)) ?_
 try simp only[pL]
 iterate 4
  (first|refine tP 6 56 ?_ hS (fun W'=>?_) ?_|refine tP 7 57 ?_ hS (fun W'=>?_) ?_|refine tP 8 58 ?_ hS (fun W'=>?_) ?_|refine tP 9 59 ?_ hS (fun W'=>?_) ?_);rotate_left;· go_simp;try rfl
  try simp only[pL]
 refine tU 10 60 (.int .i64 0) hS q 0 (fun W' hW'=>zL zQ (hW'.blk HRW7d.out.box id) (show some (Value.int .i64 r.id)=_ by rw[H0.out])) ?_
 try simp only[pL]
 refine jP 5 (fun K hK=>?_)
 go_simp
 go_wp2_with fail
 refine (zcJ ({ r with quiet:=r.quiet+1,wait:=0,role:=1,lead:= -1,votes:=1 }:zS) (.slice As sn cs) (.slice Al ln cl) Ra 0 rc _ _ (HRW7d.out.hard.mem.ext hS) Hl.out.now).mono ?_
 rintro e wf ⟨rfl,hEf⟩
 have hX:=hS.ext hEf
 go_simp
 refine hK.out _ _ hX (fun hS=>?_)
 clear hK K hX
 try simp only[pL]
 refine jP 11 (fun K hK=>?_)
 go_simp
 go_wp2_with fail
 refine (ziK _).mono ?_
 rintro e wg ⟨rfl,hEg⟩
 have hX:=hS.ext hEg
 go_simp
 refine hK.out _ _ hX (fun hS=>?_)
 clear hK K hX
 try simp only[pL]
 iterate 3
  (first|refine tP 12 62 ?_ hS (fun W'=>?_) ?_|refine tP 13 63 ?_ hS (fun W'=>?_) ?_|refine tP 14 64 ?_ hS (fun W'=>?_) ?_);rotate_left;· go_simp;try rfl
  try simp only[pL]
 refine xN 15 rfl ?_
 simp only[List.drop_succ_cons,List.drop_zero]
 have HRW7e:=hJ (HRW7d.out.ext hS)
 have HMW7e:=hJ (HMW7d.out.ext hS)
 have HqW7e:=hJ HRW7e.out.box
 clear hS hEf hEg
 go_upto_region 6 with (first
  | (refine zF ?_;first
    | (refine stQ rfl 3 _ _ rfl 1 q 14 (.int .i64 6) [.int .i64 6] zQ.size _ _ (r.asked.cells (.slice As sn cs) (.slice Al ln cl) (.slice Ra 0 rc)++[Value.slice none 0 0]) HqW7e.out rfl ?_;intro W8 hbW8 hmW8 hsW8)))
 have HR8:=hJ (show Rep w0 W8 q (.slice As sn cs) (.slice Al ln cl) (.slice Ra 0 rc) r.asked [] from HRW7e.out.turn hmW8 hbW8 rfl rfl)
 have HM8:=hJ (HMW7e.out.trans hmW8 (fun k _ e=>Hqn k e))
 clear hbW8 hmW8 hsW8
 go_wp2_with (first
  | (refine zK ?_;refine lD 65 q 0 (zb9 HR8.out.box) ?_)
  | (go_at_call 204;refine (zpF r.asked _ _ Ra 0 rc _ _ HR8.out.hard.mem Hl.out.now rfl).mono ?_;rintro e w9 ⟨rfl,hE9⟩)
  | (go_at_call 205;refine (r_stand w0 w9 q _ _ _ r.asked (HR8.out.ext hE9) Hl.out.now ⟨_,_,rfl⟩ Hn.out Hc.out Ht.out H0.out Hrd.out).mono ?_;rintro e w10 ⟨rfl,lv10,hR10,hM10⟩))
 go_end0
 exact ⟨rfl,lv10,hR10,(HM8.out.ext hE9).trans hM10 (fun k _ h=>h)⟩
structure xQ (w w':World) (sv lv rv:Value) (r:zS) (rds:List yL):Prop where
  hard:zcS w w' sv lv r.hard
  reads:zb7 138 13 w w' rv rds.length (rds.flatMap yL.cells)
theorem Rep.fresh {w w':World} {q:Nat} {sv lv rv:Value} {r:zS} {rds:List yL} (h:Rep w w' q sv lv rv r rds):xQ w w' sv lv rv r rds:=⟨h.hard,h.reads⟩
theorem xQ.up {w0 w w1:World} {sv lv rv:Value} {r:zS} {rds:List yL} (h:xQ w w1 sv lv rv r rds) (hE:Ext w0 w):xQ w0 w1 sv lv rv r rds:=⟨h.hard.up hE,⟨h.reads.1,fun g hg=>Nat.le_trans hE.size (h.reads.2 g hg)⟩⟩
theorem xQ.box {w0 w w':World} {sv lv rv:Value} {r:zS} {rds:List yL} {b:Nat} {cs:Array Value} {z:Nat×Nat} {t:TypeId} (h:xQ w0 w sv lv rv r rds) (hb:w.heap[b]? = some (.cells cs t z)) (hM:Mod (fun k=>k=b) w w') (h1:5≠t) (h2:100≠t) (h3:138≠t):xQ w0 w' sv lv rv r rds:=
  ⟨h.hard.box hb hM h1 h2,⟨zN h.reads.1 hM (fun g hg=>zG h.reads.1 hg hb h3),h.reads.2⟩⟩
abbrev zS.zero:zS:=⟨0,⟨0,0,0,0,⟨0,0,0,0⟩,[],[]⟩,0,0,0,0,0,0,0,⟨0,0,0,0,0,0,0⟩,⟨0,0,0,0,0,0,0⟩,⟨0,0,0,0,0,0,0⟩⟩
abbrev rZ:List Value:=zS.zero.cells (.slice none 0 0) (.slice none 0 0) (.slice none 0 0)
theorem zaB {P:Program} {fn:Func} {p u v:Tmp} {ty:TypeId} {k:Nat} (h:fn.results = #[.cell p ty,.tmp u,.tmp v]) (tmps:Array Value) (w:World) (g:Nat) (t:TypeId) (cs:List Value) (hs:Str P ty k)
    (hp:tmps.getD p undef=.pointer (some ⟨g,0,none⟩)) (hg:w.heap[g]? = some (.cells cs.toArray t (0,0))) (hc:cs.length=k):(results fn tmps).run P w=.ok (.tuple #[.agg cs.toArray,tmps.getD u undef,tmps.getD v undef]) w:=by
  have hl:=xH (P:=P) (o:=0) (cs:=cs) hs hg hc (fun j u hu=>by rw[Nat.zero_add];exact hu)
  have hv:(loadVar ty ⟨g,0,none⟩).run P w=.ok (.agg cs.toArray) w:=by simpa [Instr.loadAt,Instr.sureAddr] using hl
  have hp':tmps[p]?.getD undef=.pointer (some ⟨g,0,none⟩):=by rw[←Array.getD_eq_getD_getElem?];exact hp
  simp[results,h,hp',asAddr,hv,Result.andThen]
def TkOut (w:World) (r:zS) (e:Ending) (w':World):Prop:=∃ sv lv rv,e=.returned (.tuple #[.agg (r.cells sv lv rv).toArray,.slice none 0 0,.int .i64 0])∧xQ w w' sv lv rv r []∧Ext w w'
structure zgI (r:zS):Prop where
  right:zbF r []
  lone:zdL r.hard
  few:r.hard.log.length<1000
  id:r.id=0
  role:r.role=0
  term:r.hard.term<1099511627776
  round:r.round<1000000
  quiet:r.quiet<1000000
theorem zm9 (r:zS) (sv lv rv:Value) (w:World) (T:Nat→Prop) (hm:RM w T sv lv rv r []) (hf:zgI r) (hw:1<r.wait∧r.wait≤100):
  Calls Tryz.prog 66 #[.agg (r.cells sv lv rv).toArray] w (TkOut w (r.ticked)):=by
 have hr:=hf.right
 obtain ⟨As,cs,Al,cl,Ra,rc,rfl,rfl,rfl⟩:=hm.forms
 obtain ⟨sn,hsn⟩:∃ n,r.hard.snap.length=n:=⟨_,rfl⟩
 obtain ⟨ln,hln⟩:∃ n,r.hard.log.length=n:=⟨_,rfl⟩
 rw[hsn,hln,show ([]:List yL).length=0 from rfl] at hm ⊢
 obtain ⟨b,hb⟩:∃ b,w.heap.size=b:=⟨_,rfl⟩
 have hof:=fun W (hE:Ext w W)=>r_of r [] _ _ _ W T (hm.ext hE) hr
 have Hof:=hJ hof
 clear hof
 obtain ⟨Hf,Hw⟩:=hJ2 hf hw
 clear hm hr hf hw hsn hln
 go_enter Tryz.func66,Tryz.ntmps66
 go_upto_region 1 with fail
 obtain ⟨W1,hW1⟩:∃ W,(w.alloc (.cells (r.cells (.slice As sn cs) (.slice Al ln cl) (.slice Ra 0 rc)).toArray 65)).alloc (.cells (zS.zero.cells (.slice none 0 0) (.slice none 0 0) (.slice none 0 0)).toArray 65)=W:=⟨_,rfl⟩
 have hE1:Ext w W1:=hW1▸(((Mod.refl _ w).alloc _).alloc _)
 have hb1:W1.heap[b]? = some (.cells (r.cells (.slice As sn cs) (.slice Al ln cl) (.slice Ra 0 rc)).toArray 65 (0,0)):=hb▸hW1▸xE _ _ _
 have hz1:W1.heap[b+1]? = some (.cells (zS.zero.cells (.slice none 0 0) (.slice none 0 0) (.slice none 0 0)).toArray 65 (0,0)):=by rw[←hW1,←hb];exact xA _ _ _
 obtain ⟨HE1,Hb1,Hz1⟩:=hJ3 hE1 hb1 hz1
 rw[hW1]
 clear hW1 hE1 hb1 hz1
 go_upto_region 4 with (first
  | (refine zK ?_;refine lD 65 b 0 (yY Hb1.out) ?_)
  | (go_at_call 99;go_must (refine (Hof.out _ HE1.out).mono ?_;rintro e w2 ⟨q,sv2,lv2,rv2,rfl,hR2,hE2⟩)))
 obtain ⟨HR2,HE2⟩:=hJ2 hR2 hE2
 have Hb2:=hJ (hE2.blk Hb1.out id)
 have Hz2:=hJ (hE2.blk Hz1.out id)
 clear hR2 hE2
 obtain ⟨Ra2,rc2,rfl⟩:∃ A c,rv2=.slice A 0 c:=⟨_,_,zC HR2.out.reads.1 |>.choose_spec.choose_spec⟩
 go_upto_region 7 with (first
  | (refine zK ?_;refine lD 3 q 12 (zL zQ HR2.out.box (show some (Value.int .i64 r.role)=some (.int .i64 0) by rw[Hf.out.role])) ?_)
  | (go_at_call 127;refine (zkZ W1 w2 q _ _ _ r (HR2.out) Hf.out.lone ⟨_,_,rfl⟩ Hf.out.few ⟨Hf.out.right.base,Hf.out.right.commit⟩ ⟨Hf.out.right.hard.t0,Hf.out.term⟩ Hf.out.id ⟨Hf.out.right.round.1,Hf.out.round⟩ ⟨Hf.out.right.quiet.1,Hf.out.quiet⟩ Hw.out).mono ?_;rintro e w3 ⟨rfl,hR3,hM3⟩))
 have hz3:=hM3.blk Hz2.out (fun e=>by have h1:=(Array.getElem?_eq_some_iff.1 Hz1.out).1;unfold zD at e;omega)
 obtain ⟨W4,hW4⟩:∃ W,w3.drew=W:=⟨_,rfl⟩
 have hE4:Ext w3 W4:=hW4▸(Mod.refl _ w3).drew
 have HR4:=hJ (hR3.ext hE4)
 have HE4:=hJ (Mod.toExt ((Ext.mod (HE1.out.ext HE2.out) (zD w.heap.size)).trans (hM3.ext hE4) (fun k _ e=>by have:=HE1.out.size;unfold zD at *;omega)))
 have Hz4:=hJ (hE4.blk hz3 id)
 clear hz3 hR3 hM3 hE4
 obtain ⟨A5,n5,c5,rfl⟩:∃ A n c,sv2=.slice A n c:=⟨_,_,zC HR4.out.hard.1.1 |>.choose_spec⟩
 obtain ⟨B5,m5,d5,hl5⟩:∃ A n c,lv2=.slice A n c:=⟨_,_,zC HR4.out.hard.2.1 |>.choose_spec⟩
 obtain ⟨C5,k5,e5,hr5⟩:∃ A n c,(Value.slice Ra2 0 rc2)=.slice A n c:=⟨_,_,⟨_,rfl⟩⟩
 rw[hl5,hr5] at HR4
 clear hl5 hr5
 have Hqz:=hJ (show ¬ q=b+1 from fun e=>by have h1:=(Array.getElem?_eq_some_iff.1 Hz1.out).1;have:=HR2.out.new;omega)
 refine yZ (fun W=>W.heap[q]? = some (.cells ((r.ticked).cells (.slice A5 n5 c5) (.slice B5 m5 d5) (.slice C5 k5 e5)++[Value.slice none 0 0]).toArray 178 (0,0))) 9 (hW4▸HR4.out.box) (fun hS=>?_)
 rw[hW4] at hS ⊢
 clear hW4
 iterate 3
  (first|refine tP 0 26 ?_ hS (fun W'=>?_) ?_|refine tP 1 27 ?_ hS (fun W'=>?_) ?_|refine tP 2 28 ?_ hS (fun W'=>?_) ?_);rotate_left;· go_simp;try rfl
  try simp only[pL]
 refine tU 3 29 (.agg ((r.ticked).cells (.slice A5 n5 c5) (.slice B5 m5 d5) (.slice C5 k5 e5)).toArray) hS q 0 (fun W' hX1=>zb9 hX1) ?_
 try simp only[pL]
 iterate 3
  (first|refine tP 4 30 ?_ hS (fun W'=>?_) ?_|refine tP 5 31 ?_ hS (fun W'=>?_) ?_|refine tP 6 32 ?_ hS (fun W'=>?_) ?_);rotate_left;· go_simp;try rfl
  try simp only[pL]
 refine tU 7 33 (.slice none 0 0) hS q 40 (fun W' hX1=>zL zdM hX1 rfl) ?_
 try simp only[pL]
 refine jP 8 (fun K hK=>?_)
 refine zlY rfl 65 _ _ rfl 40 (b+1) 0 ((r.ticked).cells (.slice A5 n5 c5) (.slice B5 m5 d5) (.slice C5 k5 e5)) rfl rfl yA _ _ ((r.ticked).cells (.slice A5 n5 c5) (.slice B5 m5 d5) (.slice C5 k5 e5)) Hz4.out rfl (by simp) (by simp[Value.oneCell']) rfl ?_
 intro W5 hbW5 hmW5 hsW5
 refine hK.out _ _ (hmW5.blk hS Hqz.out) (fun hS=>?_)
 clear hK K
 try simp only[pL]
 refine xN 9 rfl ?_
 simp only[List.drop_succ_cons,List.drop_zero]
 clear hS
 go_wp2
 refine bodyPost_ret (zaB rfl _ _ (b+1) 65 ((r.ticked).cells (.slice A5 n5 c5) (.slice B5 m5 d5) (.slice C5 k5 e5)) yA rfl hbW5 rfl) rfl ⟨_,_,_,rfl,(HR4.out.fresh.up HE1.out).box Hz4.out hmW5 (by decide) (by decide) (by decide),Mod.toExt ((Ext.mod HE4.out (zD w.heap.size)).trans hmW5 (fun k _ e=>by unfold zD;omega))⟩
theorem zpQ (r:zS) (sv lv rv:Value) (w:World) (T:Nat→Prop) (hm:RM w T sv lv rv r []) (hf:zgI r) (hw:r.wait=1):
  Calls Tryz.prog 66 #[.agg (r.cells sv lv rv).toArray] w (TkOut w (r.asked.stood.led)):=by
 have hr:=hf.right
 obtain ⟨As,cs,Al,cl,Ra,rc,rfl,rfl,rfl⟩:=hm.forms
 obtain ⟨sn,hsn⟩:∃ n,r.hard.snap.length=n:=⟨_,rfl⟩
 obtain ⟨ln,hln⟩:∃ n,r.hard.log.length=n:=⟨_,rfl⟩
 rw[hsn,hln,show ([]:List yL).length=0 from rfl] at hm ⊢
 obtain ⟨b,hb⟩:∃ b,w.heap.size=b:=⟨_,rfl⟩
 have hof:=fun W (hE:Ext w W)=>r_of r [] _ _ _ W T (hm.ext hE) hr
 have Hof:=hJ hof
 clear hof
 obtain ⟨Hf,Hw⟩:=hJ2 hf hw
 clear hm hr hf hw hsn hln
 go_enter Tryz.func66,Tryz.ntmps66
 go_upto_region 1 with fail
 obtain ⟨W1,hW1⟩:∃ W,(w.alloc (.cells (r.cells (.slice As sn cs) (.slice Al ln cl) (.slice Ra 0 rc)).toArray 65)).alloc (.cells (zS.zero.cells (.slice none 0 0) (.slice none 0 0) (.slice none 0 0)).toArray 65)=W:=⟨_,rfl⟩
 have hE1:Ext w W1:=hW1▸(((Mod.refl _ w).alloc _).alloc _)
 have hb1:W1.heap[b]? = some (.cells (r.cells (.slice As sn cs) (.slice Al ln cl) (.slice Ra 0 rc)).toArray 65 (0,0)):=hb▸hW1▸xE _ _ _
 have hz1:W1.heap[b+1]? = some (.cells (zS.zero.cells (.slice none 0 0) (.slice none 0 0) (.slice none 0 0)).toArray 65 (0,0)):=by rw[←hW1,←hb];exact xA _ _ _
 obtain ⟨HE1,Hb1,Hz1⟩:=hJ3 hE1 hb1 hz1
 rw[hW1]
 clear hW1 hE1 hb1 hz1
 go_upto_region 4 with (first
  | (refine zK ?_;refine lD 65 b 0 (yY Hb1.out) ?_)
  | (go_at_call 99;go_must (refine (Hof.out _ HE1.out).mono ?_;rintro e w2 ⟨q,sv2,lv2,rv2,rfl,hR2,hE2⟩)))
 obtain ⟨HR2,HE2⟩:=hJ2 hR2 hE2
 have Hb2:=hJ (hE2.blk Hb1.out id)
 have Hz2:=hJ (hE2.blk Hz1.out id)
 clear hR2 hE2
 obtain ⟨Ra2,rc2,rfl⟩:∃ A c,rv2=.slice A 0 c:=⟨_,_,zC HR2.out.reads.1 |>.choose_spec.choose_spec⟩
 go_upto_region 7 with (first
  | (refine zK ?_;refine lD 3 q 12 (zL zQ HR2.out.box (show some (Value.int .i64 r.role)=some (.int .i64 0) by rw[Hf.out.role])) ?_)
  | (go_at_call 127;refine (zm8 W1 w2 q _ _ _ r (HR2.out) Hf.out.lone ⟨_,_,rfl⟩ Hf.out.few ⟨Hf.out.right.base,Hf.out.right.commit⟩ ⟨Hf.out.right.hard.t0,Hf.out.term⟩ Hf.out.id ⟨Hf.out.right.round.1,Hf.out.round⟩ ⟨Hf.out.right.quiet.1,Hf.out.quiet⟩ Hw.out).mono ?_;rintro e w3 ⟨rfl,lv3,hR3,hM3⟩))
 have hz3:=hM3.blk Hz2.out (fun e=>by have h1:=(Array.getElem?_eq_some_iff.1 Hz1.out).1;unfold zD at e;omega)
 obtain ⟨W4,hW4⟩:∃ W,w3.drew=W:=⟨_,rfl⟩
 have hE4:Ext w3 W4:=hW4▸(Mod.refl _ w3).drew
 have HR4:=hJ (hR3.ext hE4)
 have HE4:=hJ (Mod.toExt ((Ext.mod (HE1.out.ext HE2.out) (zD w.heap.size)).trans (hM3.ext hE4) (fun k _ e=>by have:=HE1.out.size;unfold zD at *;omega)))
 have Hz4:=hJ (hE4.blk hz3 id)
 clear hz3 hR3 hM3 hE4
 obtain ⟨A5,n5,c5,rfl⟩:∃ A n c,sv2=.slice A n c:=⟨_,_,zC HR4.out.hard.1.1 |>.choose_spec⟩
 obtain ⟨B5,m5,d5,hl5⟩:∃ A n c,lv3=.slice A n c:=⟨_,_,zC HR4.out.hard.2.1 |>.choose_spec⟩
 obtain ⟨C5,k5,e5,hr5⟩:∃ A n c,(Value.slice none 0 0)=.slice A n c:=⟨_,_,⟨_,rfl⟩⟩
 rw[hl5,hr5] at HR4
 clear hl5 hr5
 have Hqz:=hJ (show ¬ q=b+1 from fun e=>by have h1:=(Array.getElem?_eq_some_iff.1 Hz1.out).1;have:=HR2.out.new;omega)
 refine yZ (fun W=>W.heap[q]? = some (.cells ((r.asked.stood.led).cells (.slice A5 n5 c5) (.slice B5 m5 d5) (.slice C5 k5 e5)++[Value.slice none 0 0]).toArray 178 (0,0))) 9 (hW4▸HR4.out.box) (fun hS=>?_)
 rw[hW4] at hS ⊢
 clear hW4
 iterate 3
  (first|refine tP 0 26 ?_ hS (fun W'=>?_) ?_|refine tP 1 27 ?_ hS (fun W'=>?_) ?_|refine tP 2 28 ?_ hS (fun W'=>?_) ?_);rotate_left;· go_simp;try rfl
  try simp only[pL]
 refine tU 3 29 (.agg ((r.asked.stood.led).cells (.slice A5 n5 c5) (.slice B5 m5 d5) (.slice C5 k5 e5)).toArray) hS q 0 (fun W' hX1=>zb9 hX1) ?_
 try simp only[pL]
 iterate 3
  (first|refine tP 4 30 ?_ hS (fun W'=>?_) ?_|refine tP 5 31 ?_ hS (fun W'=>?_) ?_|refine tP 6 32 ?_ hS (fun W'=>?_) ?_);rotate_left;· go_simp;try rfl
  try simp only[pL]
 refine tU 7 33 (.slice none 0 0) hS q 40 (fun W' hX1=>zL zdM hX1 rfl) ?_
 try simp only[pL]
 refine jP 8 (fun K hK=>?_)
 refine zlY rfl 65 _ _ rfl 40 (b+1) 0 ((r.asked.stood.led).cells (.slice A5 n5 c5) (.slice B5 m5 d5) (.slice C5 k5 e5)) rfl rfl yA _ _ ((r.asked.stood.led).cells (.slice A5 n5 c5) (.slice B5 m5 d5) (.slice C5 k5 e5)) Hz4.out rfl (by simp) (by simp[Value.oneCell']) rfl ?_
 intro W5 hbW5 hmW5 hsW5
 refine hK.out _ _ (hmW5.blk hS Hqz.out) (fun hS=>?_)
 clear hK K
 try simp only[pL]
 refine xN 9 rfl ?_
 simp only[List.drop_succ_cons,List.drop_zero]
 clear hS
 go_wp2
 refine bodyPost_ret (zaB rfl _ _ (b+1) 65 ((r.asked.stood.led).cells (.slice A5 n5 c5) (.slice B5 m5 d5) (.slice C5 k5 e5)) yA rfl hbW5 rfl) rfl ⟨_,_,_,rfl,(HR4.out.fresh.up HE1.out).box Hz4.out hmW5 (by decide) (by decide) (by decide),Mod.toExt ((Ext.mod HE4.out (zD w.heap.size)).trans hmW5 (fun k _ e=>by unfold zD;omega))⟩
end Go.Proofs.YtjbkjhhjofeldaaGreat
