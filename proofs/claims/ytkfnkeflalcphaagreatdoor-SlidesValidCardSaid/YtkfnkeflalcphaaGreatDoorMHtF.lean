/- The function flush of html.line: the text so far becomes a node of the line; and what the loop of html.line keeps. -/
import Derived.Test.YtkfnkeflalcphaaGreatDoorMHrM
import Derived.Test.YtkfnkeflalcphaaGreatDoorMRgY
set_option maxHeartbeats 4000000
set_option maxRecDepth 100000
open Go.Lib (hid)
namespace Go.Proofs.YtkfnkeflalcphaaGreatDoor
open Tryz
open Option.some renaming inj->jL0
open Go.RowKit
set_option linter.unusedVariables false
set_option linter.unusedSimpArgs false
section
variable {T:TypeId} {k U:Nat} {ok:Nat->Prop} {w0 w w':World} {ds es:List D} {rows:List (List Value)} {v v':Value}
theorem aC.reU (h:aC T k (fun _=>False) U w0 ds rows v w) (hs:w.heap.size<=w'.heap.size) (hb:∀ b,w0.heap.size<=b->b<U->w'.heap[b]?=w.heap[b]?):∃ w0',w0'.heap.size=w0.heap.size/\aC T k (fun _=>False) U w0' ds rows v w':=by
 have hl0:=h.qL;have hlU:=h.CZ;have hn:w0.heap.size<=w'.heap.size:=by omega
 have hz:=iG (w:=w') hn;refine ⟨Jq w0.heap.size w',hz,?_,?_,h.len,by rw [hz];exact mI hn,h.oU,by rw [hz];exact h.qL,by omega⟩
 ·rw [hz];obtain ⟨h1,h2⟩:=h.own;refine ⟨h1,?_⟩;rcases h2 with h2 | ⟨g,cap,cur,rfl,r2,r3,r4⟩
  ·exact .inl h2
  ·exact .inr ⟨g,cap,cur,rfl,r2,(hb g r2 (h.oU g rfl)).trans r3,r4⟩
 ·rw [hz];exact aO.keep (fun b hb' hlt=>⟨hb',hb b (by rcases hb'.1 with h1 | h1;exact h1.elim;exact h1) hb'.2.2⟩) _ _ h.red
theorem Ae {n m:Nat} {ops:Array Oper} {o:Oper} {a:Act} {K:Act->World->Prop} {Q:Exit->Act->World->Prop} {E:Prop} (hgd:o.guard=none) (s x:Operand) (t:TypeId) (ho:o.op=.call { callee:=.builtin .append,args:=#[s,x],argTypes:=#[t,t] }) (i:TypeInfo) (z:Value) (bytes:Nat) (ht:prog.underlying t=some (.slice T)) (hi:prog.info? T=some i) (hz:i.zero=some z) (hsize:i.size=k) (hby:i.bytes=bytes) (hzs:z.cells.size=k) (hsz:0<k) (h:aC T k ok U w0 ds rows v w) (hB:∀ b,ok b->b<w0.heap.size) (vx:Value) (hx:Rd (fun b=>ok b\/U<=b) w (.sl k es) [vx]) (h1:∀ (rs:List (List Value)) (ok':Nat->Prop),aO ok' w es rs->∀ u∈rs.flatten,u.oneCell'=true) (hdn:ds.length=n) (hem:es.length=m) (hn:n+m<=10000000) (tX:bytes<=1000) (hs:a.eval s=v) (hxe:a.eval x=vx) (hK:∀ a' c' rows' w',aC T k ok w'.heap.size w0 (ds++es) rows' (.slice a' (n+m) c') w'->w.grownBy w' v.ownBlock->((Value.slice a' (n+m) c').ownBlock=v.ownBlock\/(Value.slice a' (n+m) c').ownBlock=some w.heap.size)->K (a.put o.dst (.slice a' (n+m) c')) w') : if Region.wanted o (yielded ops a.tmps)=true then Oper.wp prog o a w K Q else E:=by subst hdn hem;obtain ⟨A,c,rs,rfl,h2,h3,h4,h5,h6⟩:=Rd.Gm hx;have hmul:(ds.length+es.length)*bytes<=140737488355328:=Nat.le_trans (Nat.mul_le_mul hn tX) (by omega);refine yj _ hgd s x t ho w0.heap.size T i z k bytes ht hi hz hsize hby hzs hsz v ds.length rows.flatten hs h.own w.heap.size A es.length c rs.flatten hxe h6 (h1 rs _ h4) (by unfold maxLen;omega) hmul (by have:=h.aY.size;omega) ?_;intro v' w' hown hg hat;obtain ⟨a',c',rfl⟩:=lD hown;exact hK a' c' _ w' (h.put hB h4 h5 (World.grownBy.refl w none) hown hg hat) hg hat
end
def U7 (S:Nat) (w0 w wB:World) (L:List Nd) (e:Ending) (w':World):Prop:=
 e=.returned (.tuple #[])/\∃ rows v wB',wB'.heap.size=wB.heap.size/\aC 35 4 (fun _=>False) w'.heap.size wB' (L.map Nd.d) rows v w'/\aH S v 28 w'/\Gl (S+1) w'.heap.size [] w' /\
  (∀ g,v.ownBlock=some g->g<w0.heap.size\/w.heap.size<=g)/\(∀ b,w0.heap.size<=b->b<w.heap.size->w'.heap[b]?=w.heap[b]?)/\Below S w w'
theorem Ey (S U:Nat) (l:List UInt8) (L:List Nd) (rows:List (List Value)) (v:Value) (w0 w wB:World) (hsB:S+2<=wB.heap.size) (hrow:aC 35 4 (fun _=>False) U wB (L.map Nd.d) rows v w0) (hbx:aH S v 28 w0) (hbd:Gl (S+1) U (Lib.byteCells l) w0) (hb:Below w0.heap.size w0 w) (hL:L.length<=3000000) : Calls prog 128 #[.pointer (some ⟨S,0,none⟩),.pointer (some ⟨S+1,0,none⟩)] w (U7 S w0 w wB (L++bY ⟨l.toArray⟩)):=by
 obtain ⟨iN,LJ,qx,qz,qA⟩:=info_parts oC;obtain ⟨n,hn⟩:∃ n,n=(L.map Nd.d).length:=⟨_,rfl⟩;obtain ⟨av,cv,rfl,-,-⟩:=hrow.cap hn.symm;obtain ⟨m,hm⟩:∃ m,m=(bY ⟨l.toArray⟩).length:=⟨_,rfl⟩;have hm1:m<=1:=by rw [hm];unfold bY;split<;>simp
 have hn1:n<=3000000:=by rw [hn,List.length_map];exact hL
 have hem:((bY ⟨l.toArray⟩).map Nd.d).length=m:=by rw [List.length_map,hm]
 have jIq:=hrow.CZ;have hBU:=hrow.qL;have hsz:=hb.size;have hSU:S+2<=U:=by omega
 have C8:Hid (∀ g,(Value.slice av n cv).ownBlock=some g->wB.heap.size<=g/\g<U):=fun g hg=>⟨(hrow.own.lt g hg).1,hrow.oU g hg⟩
 have HN:=hid hn.symm;have HEM:=hid hem;have bR:=hid hrow;have mD:=hid hbd;have HB:=hid hb;have bxw:w.drew.cell? ⟨S,0,none⟩=some (.slice av n cv):=(hb.cell (p:=⟨S,0,none⟩) (by show S<_;omega)).trans hbx.cell;have ST:=hid (QZ (S+1) U l w0 w.drew hbd ⟨hb.os,hb.tape,hb.output,hb.size,hb.block⟩);have lK:=hid hbx;clear hrow hbd hb hn hm hem hbx hL;go_enter func128,ntmps128;go_upto_region 0 with (fail)
 refine oH 4 (fun w'=>w'.cell? ⟨S,0,none⟩=some (.slice av n cv)) (by kernel_rfl) bxw ?_;intro hH;refine q2j 0 rfl (by kernel_rfl) hH (by rfl) (by intro wv hSw;(try dsimp only at hSw);go_simp;try with_reducible rfl) ?_;refine MJ (i:=1) rfl (by kernel_rfl) (fun KQ hK=>?_);go_simp;go_at_call 73
 (with_reducible refine ST.out.mono ?_)
 rintro e w1 ⟨rfl,o1,o2,o3,z1,k1,k2⟩;have z1:w1.heap.size=w.heap.size:=z1;have Z1:=hid z1;have K1:=hid (show ∀ b,b<U->w1.heap[b]?=w0.heap[b]? from fun b hb=>(k1 b hb).trans (HB.out.block b (by omega)));have K2:=hid (show ∀ b,w0.heap.size<=b->w1.heap[b]?=w.heap[b]? from fun b hb=>k2 b hb);have O1:=hid (show w1.os=w0.os/\w1.tape=w0.tape/\w1.output=w0.output from ⟨o1.trans HB.out.os,o2.trans HB.out.tape,o3.trans HB.out.output⟩);have hz1:w.heap.size<=w1.heap.size:=Nat.le_of_eq z1.symm;have S1:w1.cell? ⟨S,0,none⟩=some (.slice av n cv):=by rw [lI (K1.out S (by omega))];exact lK.out.cell
 have DT:=hid (jd ⟨l.toArray⟩ w1);clear o1 o2 o3 z1 k1 k2 ST;refine hK.out _ _ (fun _=>S1) (fun hH2=>?_);clear hK KQ hH;have hH:=hH2 (by decide);clear hH2;refine MJ (i:=2) rfl (by kernel_rfl) (fun KQ hK=>?_);go_simp;go_at_call 53
 (with_reducible refine DT.out.mono ?_)
 rintro e w2 ⟨bI,v2,rfl,hrow2⟩;obtain ⟨a2,c2,rfl,-,-⟩:=hrow2.cap HEM.out;have b2:=hrow2.aY;have hz2:=b2.size;have U2:=hid (bR.out.same (w':=w2) (by omega) ⟨b2.os.trans O1.out.1,b2.tape.trans O1.out.2.1,b2.output.trans O1.out.2.2⟩ (fun b hb=>(b2.block b (by omega)).trans (K1.out b hb)));have R2:=hid (show Rd (fun b=>False\/U<=b) w2 (.sl 4 ((bY ⟨l.toArray⟩).map Nd.d)) [.slice a2 m c2] from hrow2.iZ.weaken (fun b hb=>.inr (by omega)));have B2:=hid b2;have S2:w2.cell? ⟨S,0,none⟩=some (.slice av n cv):=(b2.cell (p:=⟨S,0,none⟩) (by show S<_;omega)).trans S1;clear hrow2 b2 DT S1;refine hK.out _ _ (fun _=>S2) (fun hH2=>?_);clear hK KQ hH;have hH:=hH2 (by decide);clear hH2;refine MJ (i:=3) rfl (by kernel_rfl) (fun KQ hK=>?_);refine Ae rfl (.tmp 2) (.tmp 4) 28 rfl iN _ 80 underlying28 LJ qx qz qA rfl (by decide) U2.out (fun _=>False.elim) (.slice a2 m c2) R2.out (fun rs ok' h=>O8 (bY ⟨l.toArray⟩) rs ok' w2 h) HN.out HEM.out (by omega) (by decide) rfl rfl ?_;intro a3 c3 gW w3 hrow3 hg3 zX;have hSv:some S≠(Value.slice av n cv).ownBlock:=fun e=>by have:=(C8.out S e.symm).1;omega
 have jDz:some (S+1)≠(Value.slice av n cv).ownBlock:=fun e=>by have:=(C8.out (S+1) e.symm).1;omega
 have bx3:aH S (.slice av n cv) 28 w3:=(hg3.block S (by omega) hSv).trans ((B2.out.block S (by omega)).trans ((K1.out S (by omega)).trans lK.out));have BX3:=hid bx3;have S3:=bx3.cell;have F3:=bx3.free;have B3:Hid (∀ b,b<U->(∀ g,(Value.slice av n cv).ownBlock=some g->b≠g)->w3.heap[b]?=w0.heap[b]?):=fun b hb hne=>(hg3.block b (by omega) (fun e=>hne b e.symm rfl)).trans ((B2.out.block b (by omega)).trans (K1.out b hb))
 have C3:Hid (∀ b,w0.heap.size<=b->b<w.heap.size->w3.heap[b]?=w.heap[b]?):=fun b hb1 hb2=>(hg3.block b (by omega) (fun e=>by have:=(C8.out b e.symm).2;omega)).trans ((B2.out.block b (by omega)).trans (K2.out b hb1))
 have HW3:Hid (w2.heap.size<=w3.heap.size/\w3.os=w0.os/\w3.tape=w0.tape/\w3.output=w0.output):=⟨hg3.size,hg3.os.trans (B2.out.os.trans O1.out.1),hg3.tape.trans (B2.out.tape.trans O1.out.2.1),hg3.output.trans (B2.out.output.trans O1.out.2.2)⟩;have Gg:Hid (∀ g,(Value.slice a3 (n+m) c3).ownBlock=some g->g<w0.heap.size\/w.heap.size<=g):=fun g hg=>by
  rcases zX with e | e
  ·rw [e] at hg;have:=(C8.out g hg).2;omega
  ·rw [e] at hg;have:=jL0 hg;omega
 have U3:=hid hrow3;have hz3:=HW3.out.1;clear hrow3 hg3 zX hSv jDz bx3 U2 R2 S2 K1 K2;refine hK.out _ _ (fun _=>S3) (fun hH2=>?_);clear hK KQ hH;have hH:=hH2 (by decide);clear hH2;refine MJ (i:=4) rfl (by kernel_rfl) (fun KQ hK=>?_);go_simp;refine hK.out _ _ (fun h=>absurd rfl h) (fun _=>?_);clear hK KQ;refine oI (by kernel_rfl) ?_ _;obtain ⟨w4,hw4⟩:∃ w4,w4=w3.setCell ⟨S,0,none⟩ (.slice a3 (n+m) c3):=⟨_,rfl⟩;rw [<- hw4];have bx4:aH S (.slice a3 (n+m) c3) 28 w4:=by rw [hw4];exact BX3.out.set _
 have g4:w3.grownBy w4 (some S):=by rw [hw4];exact ⟨rfl,rfl,rfl,by simp [World.setCell],fun b _ hb=>Below.heap_setCell w3 ⟨S,0,none⟩ _ b (fun e=>hb (by rw [e]))⟩
 have hz4:w3.heap.size<=w4.heap.size:=g4.size;have HZ4:Hid (w4.heap.size=w3.heap.size):=by show _=_;rw [hw4];simp [World.setCell]
 obtain ⟨wB4,hB4,hrow4⟩:=U3.out.hop2 (p:=S) (by omega) g4;have BX4:=hid bx4;have G4:=hid g4;have U4:=hid hrow4;have lC:=hid hB4;have Zx:∃ p vb,w4.heap[S+1]?=some (.cells #[p,vb] 104 (0,0)):=by
  have e1:w4.heap[S+1]?=w0.heap[S+1]?:=(g4.block (S+1) (by omega) (by simp)).trans (B3.out (S+1) (by omega) (fun g hg=>by have:=(C8.out g hg).1;omega));rcases mD.out with ⟨-,vb,h,-⟩ | ⟨-,vb,h,-⟩
  ·exact ⟨_,vb,e1.trans h⟩
  ·exact ⟨_,vb,e1.trans h⟩
 obtain ⟨p4,vb4,Zx⟩:=Zx;have RS:=hid (Zw (S+1) p4 vb4 w4 Zx);clear hw4 bx4 g4 hrow4 hB4 Zx S3 F3 BX3 U3 hH bxw;go_wp2_with fail
 (with_reducible refine RS.out.mono ?_)
 rintro e w5 ⟨rfl,hb5,g5⟩;obtain ⟨wB5,hB5,bZ⟩:=U4.out.hop2 (p:=S+1) (by rw [lC.out];omega) g5;have hz5:=g5.size;have HF:Hid (U7 S w0 w wB (L++bY ⟨l.toArray⟩) (.returned (.tuple #[])) w5):=by
  refine ⟨rfl,gW,_,wB5,hB5.trans lC.out,?_,(g5.block S (by omega) (by simp)).trans BX4.out,Gl.new hb5 (by omega),Gg.out,fun b h1 h2=>?_,?_⟩
  ·rw [List.map_append];exact (bZ.up (U':=w5.heap.size) (by have:=HZ4.out;omega) (Nat.le_refl _))
  ·exact (g5.block b (by omega) (fun e=>by have:=jL0 e;omega)).trans ((G4.out.block b (by omega) (fun e=>by have:=jL0 e;omega)).trans (C3.out b h1 h2))
  ·have h0:=HB.out;refine ⟨g5.os.trans (G4.out.os.trans (HW3.out.2.1.trans h0.os.symm)),g5.tape.trans (G4.out.tape.trans (HW3.out.2.2.1.trans h0.tape.symm)),g5.output.trans (G4.out.output.trans (HW3.out.2.2.2.trans h0.output.symm)),by omega,fun b hb=>?_⟩;exact (g5.block b (by omega) (fun e=>by have:=jL0 e;omega)).trans ((G4.out.block b (by omega) (fun e=>by have:=jL0 e;omega)).trans ((B3.out b (by omega) (fun g hg=>by have:=(C8.out g hg).1;omega)).trans (h0.block b (by omega)).symm))
 clear hb5 g5 bZ hB5 RS;go_wp2
 go_end0
 exact HF.out
end Go.Proofs.YtkfnkeflalcphaaGreatDoor

