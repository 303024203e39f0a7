/- The function flush of html.line: the text so far becomes a node of the line; and what the loop of html.line keeps. Contract of html.line: the nodes of inlines. Contracts of publisherref34.some, element, texts, attrs, joined. Contract of publisherref34.joined: neighbouring texts are joined. -/
import Derived.Test.YtkfnkeflalcphaaGreatDoorKRgY
import Derived.Test.YtkfnkeflalcphaaGreatDoorKHsm
set_option maxHeartbeats 8000000
set_option maxRecDepth 100000
open Go.Lib (hid)
namespace Go.Proofs.YtkfnkeflalcphaaGreatDoor
open List renaming setIfInBounds_toArray->jD3,set_cons_zero->jD4,set_cons_succ->jD5,getElem?_eq_getElem->jD6,length_append->jDq,length_map->jDx,mem_of_getElem?->jE4,map_append->jE8,take_of_length_le->jEj
open Go.RowKit.Below renaming refl->jD7,heap_setCell->jE1,heap_alloc->jE2
open Nat renaming le_refl->jD8
open Option.some renaming inj->jE0
open Go.World renaming cell?->jF0,setCell->jF1
open Go renaming World->jG9,Value->jGk
open Go.RowKit
set_option linter.unusedVariables false
set_option linter.unusedSimpArgs false
section
variable {T:TypeId} {k U:Nat} {ok:Nat->Prop} {w0 w w':jG9} {ds es:List D} {rows:List (List jGk)} {v v':jGk}
theorem aF.reU (h:aF T k (fun _=>False) U w0 ds rows v w) (hs:w.heap.size<=w'.heap.size) (hb:∀ b,w0.heap.size<=b->b<U->w'.heap[b]?=w.heap[b]?):∃ w0',w0'.heap.size=w0.heap.size/\aF T k (fun _=>False) U w0' ds rows v w':=by
 have hl0:=h.Gg;have hlU:=h.JJ;have hn:w0.heap.size<=w'.heap.size:=by omega
 have hz:=jl (w:=w') hn;refine ⟨JL w0.heap.size w',hz,?_,?_,h.len,by rw [hz];exact qR hn,h.oU,by rw [hz];exact h.Gg,by omega⟩
 ·rw [hz];obtain ⟨h1,h2⟩:=h.own;refine ⟨h1,?_⟩;rcases h2 with h2 | ⟨g,cap,cur,rfl,r2,r3,r4⟩
  ·exact .inl h2
  ·exact .inr ⟨g,cap,cur,rfl,r2,(hb g r2 (h.oU g rfl)).trans r3,r4⟩
 ·rw [hz];exact aR.keep (fun b hb' hlt=>⟨hb',hb b (by rcases hb'.1 with h1 | h1;exact h1.elim;exact h1) hb'.2.2⟩) _ _ h.red
theorem yU {n m:Nat} {ops:Array Oper} {o:Oper} {a:Act} {K:Act->jG9->Prop} {Q:Exit->Act->jG9->Prop} {E:Prop} (hgd:o.guard=none) (s x:Operand) (t:TypeId) (ho:o.op=.call { callee:=.builtin .append,args:=#[s,x],argTypes:=#[t,t] }) (i:TypeInfo) (z:jGk) (bytes:Nat) (ht:Tryz.prog.underlying t=some (.slice T)) (hi:Tryz.prog.info? T=some i) (hz:i.zero=some z) (hsize:i.size=k) (hby:i.bytes=bytes) (hzs:z.cells.size=k) (hsz:0<k) (h:aF T k ok U w0 ds rows v w) (hB:∀ b,ok b->b<w0.heap.size) (vx:jGk) (hx:Rd (fun b=>ok b\/U<=b) w (.sl k es) [vx]) (h1:∀ (rs:List (List jGk)) (ok':Nat->Prop),aR ok' w es rs->∀ u∈rs.flatten,u.oneCell'=true) (hdn:ds.length=n) (hem:es.length=m) (hn:n+m<=10000000) (nQ:bytes<=1000) (hs:a.eval s=v) (hxe:a.eval x=vx) (hK:∀ a' c' rows' w',aF T k ok w'.heap.size w0 (ds++es) rows' (.slice a' (n+m) c') w'->w.grownBy w' v.ownBlock->((Value.slice a' (n+m) c').ownBlock=v.ownBlock\/(Value.slice a' (n+m) c').ownBlock=some w.heap.size)->K (a.put o.dst (.slice a' (n+m) c')) w') : if Region.wanted o (yielded ops a.tmps)=true then Oper.wp Tryz.prog o a w K Q else E:=by subst hdn hem;obtain ⟨A,c,rs,rfl,h2,h3,h4,h5,h6⟩:=Rd.JK hx;have hmul:(ds.length+es.length)*bytes<=140737488355328:=Nat.le_trans (Nat.mul_le_mul hn nQ) (by omega);refine wE _ hgd s x t ho w0.heap.size T i z k bytes ht hi hz hsize hby hzs hsz v ds.length rows.flatten hs h.own w.heap.size A es.length c rs.flatten hxe h6 (h1 rs _ h4) (by unfold maxLen;omega) hmul (by have:=h.aM.size;omega) ?_;intro v' w' hown hg hat;obtain ⟨a',c',rfl⟩:=kW hown;exact hK a' c' _ w' (h.put hB h4 h5 (World.grownBy.refl w none) hown hg hat) hg hat
end
def Rv (S:Nat) (w0 w wB:jG9) (L:List Nd) (e:Ending) (w':jG9):Prop:=
 e=.returned (.tuple #[])/\∃ rows v wB',wB'.heap.size=wB.heap.size/\aF 35 4 (fun _=>False) w'.heap.size wB' (L.map Nd.d) rows v w'/\aH S v 28 w'/\Es (S+1) w'.heap.size [] w' /\
  (∀ g,v.ownBlock=some g->g<w0.heap.size\/w.heap.size<=g)/\(∀ b,w0.heap.size<=b->b<w.heap.size->w'.heap[b]?=w.heap[b]?)/\Below S w w'
theorem Cv (S U:Nat) (l:List UInt8) (L:List Nd) (rows:List (List jGk)) (v:jGk) (w0 w wB:jG9) (hsB:S+2<=wB.heap.size) (hrow:aF 35 4 (fun _=>False) U wB (L.map Nd.d) rows v w0) (hbx:aH S v 28 w0) (hbd:Es (S+1) U (Lib.byteCells l) w0) (hb:Below w0.heap.size w0 w) (hL:L.length<=3000000) : Calls Tryz.prog 128 #[.pointer (some ⟨S,0,none⟩),.pointer (some ⟨S+1,0,none⟩)] w (Rv S w0 w wB (L++bI ⟨l.toArray⟩)):=by
 obtain ⟨iN,qB,fC,fD,fE⟩:=info_parts gY;obtain ⟨n,hn⟩:∃ n,n=(L.map Nd.d).length:=⟨_,rfl⟩;obtain ⟨av,cv,rfl,-,-⟩:=hrow.cap hn.symm;obtain ⟨m,hm⟩:∃ m,m=(bI ⟨l.toArray⟩).length:=⟨_,rfl⟩;have hm1:m<=1:=by rw [hm];unfold bI;split<;>simp
 have hn1:n<=3000000:=by rw [hn,jDx];exact hL
 have hem:((bI ⟨l.toArray⟩).map Nd.d).length=m:=by rw [jDx,hm]
 have jBj:=hrow.JJ;have hBU:=hrow.Gg;have hsz:=hb.size;have hSU:S+2<=U:=by omega
 have J5:Hid (∀ g,(Value.slice av n cv).ownBlock=some g->wB.heap.size<=g/\g<U):=fun g hg=>⟨(hrow.own.lt g hg).1,hrow.oU g hg⟩
 have HN:=hid hn.symm;have HEM:=hid hem;have bg:=hid hrow;have nC:=hid hbd;have HB:=hid hb;have bxw:w.drew.cell? ⟨S,0,none⟩=some (.slice av n cv):=(hb.cell (p:=⟨S,0,none⟩) (by show S<_;omega)).trans hbx.cell;have ST:=hid (Ox (S+1) U l w0 w.drew hbd ⟨hb.os,hb.tape,hb.output,hb.size,hb.block⟩);have pY:=hid hbx;clear hrow hbd hb hn hm hem hbx hL;go_enter Tryz.func128,Tryz.ntmps128;go_upto_region 0 with (fail)
 refine kg 4 (fun w'=>w'.cell? ⟨S,0,none⟩=some (.slice av n cv)) (by kernel_rfl) bxw ?_;intro hH;refine Br 0 rfl (by kernel_rfl) hH (by rfl) (by intro wv hSw;(try dsimp only at hSw);go_simp;try with_reducible rfl) ?_;refine Jf (i:=1) rfl (by kernel_rfl) (fun KQ hK=>?_);go_simp;go_at_call 73
 (with_reducible refine ST.out.mono ?_)
 rintro e w1 ⟨rfl,o1,o2,o3,z1,k1,k2⟩;have z1:w1.heap.size=w.heap.size:=z1;have Z1:=hid z1;have K1:=hid (show ∀ b,b<U->w1.heap[b]?=w0.heap[b]? from fun b hb=>(k1 b hb).trans (HB.out.block b (by omega)));have K2:=hid (show ∀ b,w0.heap.size<=b->w1.heap[b]?=w.heap[b]? from fun b hb=>k2 b hb);have O1:=hid (show w1.os=w0.os/\w1.tape=w0.tape/\w1.output=w0.output from ⟨o1.trans HB.out.os,o2.trans HB.out.tape,o3.trans HB.out.output⟩);have hz1:w.heap.size<=w1.heap.size:=Nat.le_of_eq z1.symm;have S1:w1.cell? ⟨S,0,none⟩=some (.slice av n cv):=by rw [jq (K1.out S (by omega))];exact pY.out.cell
 have DT:=hid (jD ⟨l.toArray⟩ w1);clear o1 o2 o3 z1 k1 k2 ST;refine hK.out _ _ (fun _=>S1) (fun hH2=>?_);clear hK KQ hH;have hH:=hH2 (by decide);clear hH2;refine Jf (i:=2) rfl (by kernel_rfl) (fun KQ hK=>?_);go_simp;go_at_call 53
 (with_reducible refine DT.out.mono ?_)
 rintro e w2 ⟨aZ,v2,rfl,hrow2⟩;obtain ⟨a2,c2,rfl,-,-⟩:=hrow2.cap HEM.out;have b2:=hrow2.aM;have hz2:=b2.size;have U2:=hid (bg.out.same (w':=w2) (by omega) ⟨b2.os.trans O1.out.1,b2.tape.trans O1.out.2.1,b2.output.trans O1.out.2.2⟩ (fun b hb=>(b2.block b (by omega)).trans (K1.out b hb)));have R2:=hid (show Rd (fun b=>False\/U<=b) w2 (.sl 4 ((bI ⟨l.toArray⟩).map Nd.d)) [.slice a2 m c2] from hrow2.bZ.weaken (fun b hb=>.inr (by omega)));have B2:=hid b2;have S2:w2.cell? ⟨S,0,none⟩=some (.slice av n cv):=(b2.cell (p:=⟨S,0,none⟩) (by show S<_;omega)).trans S1;clear hrow2 b2 DT S1;refine hK.out _ _ (fun _=>S2) (fun hH2=>?_);clear hK KQ hH;have hH:=hH2 (by decide);clear hH2;refine Jf (i:=3) rfl (by kernel_rfl) (fun KQ hK=>?_);refine yU rfl (.tmp 2) (.tmp 4) 28 rfl iN _ 80 Tryz.underlying28 qB fC fD fE rfl (by decide) U2.out (fun _=>False.elim) (.slice a2 m c2) R2.out (fun rs ok' h=>Er (bI ⟨l.toArray⟩) rs ok' w2 h) HN.out HEM.out (by omega) (by decide) rfl rfl ?_;intro a3 c3 dD w3 hrow3 hg3 wM;have hSv:some S≠(Value.slice av n cv).ownBlock:=fun e=>by have:=(J5.out S e.symm).1;omega
 have jx3:some (S+1)≠(Value.slice av n cv).ownBlock:=fun e=>by have:=(J5.out (S+1) e.symm).1;omega
 have bx3:aH S (.slice av n cv) 28 w3:=(hg3.block S (by omega) hSv).trans ((B2.out.block S (by omega)).trans ((K1.out S (by omega)).trans pY.out));have BX3:=hid bx3;have S3:=bx3.cell;have F3:=bx3.free;have B3:Hid (∀ b,b<U->(∀ g,(Value.slice av n cv).ownBlock=some g->b≠g)->w3.heap[b]?=w0.heap[b]?):=fun b hb hne=>(hg3.block b (by omega) (fun e=>hne b e.symm rfl)).trans ((B2.out.block b (by omega)).trans (K1.out b hb))
 have C3:Hid (∀ b,w0.heap.size<=b->b<w.heap.size->w3.heap[b]?=w.heap[b]?):=fun b hb1 hb2=>(hg3.block b (by omega) (fun e=>by have:=(J5.out b e.symm).2;omega)).trans ((B2.out.block b (by omega)).trans (K2.out b hb1))
 have HW3:Hid (w2.heap.size<=w3.heap.size/\w3.os=w0.os/\w3.tape=w0.tape/\w3.output=w0.output):=⟨hg3.size,hg3.os.trans (B2.out.os.trans O1.out.1),hg3.tape.trans (B2.out.tape.trans O1.out.2.1),hg3.output.trans (B2.out.output.trans O1.out.2.2)⟩;have xg:Hid (∀ g,(Value.slice a3 (n+m) c3).ownBlock=some g->g<w0.heap.size\/w.heap.size<=g):=fun g hg=>by
  rcases wM with e | e
  ·rw [e] at hg;have:=(J5.out g hg).2;omega
  ·rw [e] at hg;have:=jE0 hg;omega
 have U3:=hid hrow3;have hz3:=HW3.out.1;clear hrow3 hg3 wM hSv jx3 bx3 U2 R2 S2 K1 K2;refine hK.out _ _ (fun _=>S3) (fun hH2=>?_);clear hK KQ hH;have hH:=hH2 (by decide);clear hH2;refine Jf (i:=4) rfl (by kernel_rfl) (fun KQ hK=>?_);go_simp;refine hK.out _ _ (fun h=>absurd rfl h) (fun _=>?_);clear hK KQ;refine ko (by kernel_rfl) ?_ _;obtain ⟨w4,hw4⟩:∃ w4,w4=w3.setCell ⟨S,0,none⟩ (.slice a3 (n+m) c3):=⟨_,rfl⟩;rw [<- hw4];have bx4:aH S (.slice a3 (n+m) c3) 28 w4:=by rw [hw4];exact BX3.out.set _
 have g4:w3.grownBy w4 (some S):=by rw [hw4];exact ⟨rfl,rfl,rfl,by simp [jF1],fun b _ hb=>jE1 w3 ⟨S,0,none⟩ _ b (fun e=>hb (by rw [e]))⟩
 have hz4:w3.heap.size<=w4.heap.size:=g4.size;have HZ4:Hid (w4.heap.size=w3.heap.size):=by show _=_;rw [hw4];simp [jF1]
 obtain ⟨wB4,hB4,hrow4⟩:=U3.out.hop2 (p:=S) (by omega) g4;have BX4:=hid bx4;have G4:=hid g4;have U4:=hid hrow4;have kM:=hid hB4;have WQ:∃ p vb,w4.heap[S+1]?=some (.cells #[p,vb] 104 (0,0)):=by
  have e1:w4.heap[S+1]?=w0.heap[S+1]?:=(g4.block (S+1) (by omega) (by simp)).trans (B3.out (S+1) (by omega) (fun g hg=>by have:=(J5.out g hg).1;omega));rcases nC.out with ⟨-,vb,h,-⟩ | ⟨-,vb,h,-⟩
  ·exact ⟨_,vb,e1.trans h⟩
  ·exact ⟨_,vb,e1.trans h⟩
 obtain ⟨p4,vb4,WQ⟩:=WQ;have RS:=hid (WT (S+1) p4 vb4 w4 WQ);clear hw4 bx4 g4 hrow4 hB4 WQ S3 F3 BX3 U3 hH bxw;go_wp2_with fail
 (with_reducible refine RS.out.mono ?_)
 rintro e w5 ⟨rfl,hb5,g5⟩;obtain ⟨wB5,hB5,aX⟩:=U4.out.hop2 (p:=S+1) (by rw [kM.out];omega) g5;have hz5:=g5.size;have HF:Hid (Rv S w0 w wB (L++bI ⟨l.toArray⟩) (.returned (.tuple #[])) w5):=by
  refine ⟨rfl,dD,_,wB5,hB5.trans kM.out,?_,(g5.block S (by omega) (by simp)).trans BX4.out,Es.new hb5 (by omega),xg.out,fun b h1 h2=>?_,?_⟩
  ·rw [jE8];exact (aX.up (U':=w5.heap.size) (by have:=HZ4.out;omega) (jD8 _))
  ·exact (g5.block b (by omega) (fun e=>by have:=jE0 e;omega)).trans ((G4.out.block b (by omega) (fun e=>by have:=jE0 e;omega)).trans (C3.out b h1 h2))
  ·have h0:=HB.out;refine ⟨g5.os.trans (G4.out.os.trans (HW3.out.2.1.trans h0.os.symm)),g5.tape.trans (G4.out.tape.trans (HW3.out.2.2.1.trans h0.tape.symm)),g5.output.trans (G4.out.output.trans (HW3.out.2.2.2.trans h0.output.symm)),by omega,fun b hb=>?_⟩;exact (g5.block b (by omega) (fun e=>by have:=jE0 e;omega)).trans ((G4.out.block b (by omega) (fun e=>by have:=jE0 e;omega)).trans ((B3.out b (by omega) (fun g hg=>by have:=(J5.out g hg).1;omega)).trans (h0.block b (by omega)).symm))
 clear hb5 g5 aX hB5 RS;go_wp2
 go_end0
 exact HF.out
open Go.RowKit
theorem jqq (x:aj) (h:x.small):x.nd.tx.size<=300:=by
 obtain ⟨k,t,d,ti,a,ar,ci,ks⟩:=x;rw [aj.small] at h;have h1:=h.1;have e0:(⟨#[]⟩:ByteArray).size=0:=rfl;have e1:J6.size=1:=rfl;rw [aj.nd];have key:∀ (c:Prop) [Decidable c] (a b:Nd),a.tx.size<=300->b.tx.size<=300->(if c then a else b).tx.size<=300:=by
  intro c _ a b h1 h2;split
  ·exact h1
  ·exact h2
 have el:∀ (n:ByteArray) (a:List Pr) (ks:List Nd),(aJ n a ks).tx.size<=300:=fun _ _ _=>by show (⟨#[]⟩:ByteArray).size<=300;omega
 refine key _ _ _ (by show J6.size<=300;omega) ?_;refine key _ _ _ (el _ _ _) (key _ _ _ (el _ _ _) (key _ _ _ (el _ _ _) (key _ _ _ (el _ _ _) (key _ _ _ (el _ _ _) (key _ _ _ (el _ _ _) (key _ _ _ (el _ _ _) (key _ _ _ (el _ _ _) (key _ _ _ (el _ _ _) (key _ _ _ (el _ _ _) (key _ _ _ (el _ _ _) h1))))))))))
theorem aj.lZ:∀ (l:List aj),aj.aB l->∀ x∈l,x.small
 | [],_,x,hx=>by cases hx
 | y::l,h,x,hx=>by
  rw [aj.aB] at h;rcases List.mem_cons.1 hx with rfl | hx
  ·exact h.1
  ·exact aj.lZ l h.2 x hx
theorem Gx:∀ (l:List Nd) (p:List Nd × ByteArray),(l.foldl eB p).1.length<=p.1.length+2*l.length
 | [],p=>by simp
 | x::l,p=>by
  have h:=Gx l (eB p x);have h2:(eB p x).1.length<=p.1.length+2:=by
   unfold eB;split
   ·show p.1.length<=_;omega
   ·show (p.1++bI p.2++[x]).length<=_;rw [jDq,jDq];have:(bI p.2).length<=1:=by unfold bI;split<;>simp
    simp;omega
  rw [List.foldl_cons,List.length_cons];omega
theorem MI:∀ (l:List Nd) (p:List Nd × ByteArray),(∀ x∈l,x.tx.size<=300)->(l.foldl eB p).2.size<=p.2.size+300*l.length
 | [],p,_=>by simp
 | x::l,p,hx=>by
  have h:=MI l (eB p x) (fun y hy=>hx y (List.mem_cons_of_mem _ hy));have h1:=hx x (List.mem_cons_self ..);have h2:(eB p x).2.size<=p.2.size+300:=by
   unfold eB;split
   ·show (p.2++x.tx).size<=_;rw [ByteArray.size_append];omega
   ·show (⟨#[]⟩:ByteArray).size<=_;have:(⟨#[]⟩:ByteArray).size=0:=rfl;omega
  rw [List.foldl_cons,List.length_cons];omega
theorem J7 (l:List Nd) (k:Nat) (x:Nd) (h:l[k]?=some x):gP (l.take (k+1))=eB (gP (l.take k)) x:=by rw [List.take_add_one,h];exact J8 _ _
theorem Et (a b:ByteArray):Lib.strCells (a++b)=Lib.strCells a++Lib.strCells b:=by unfold Lib.strCells;rw [ByteArray.data_append];simp
def sO (w:jG9) (g o:Nat) (c0 c1 c2 c3:jGk):jG9:=(((w.setCell ⟨g,o,none⟩ c0).setCell ⟨g,o+1,none⟩ c1).setCell ⟨g,o+2,none⟩ c2).setCell ⟨g,o+3,none⟩ c3
theorem iq (w:jG9) (g o:Nat) (c0 c1 c2 c3:jGk) (b:Nat) (h:b≠g):(sO w g o c0 c1 c2 c3).heap[b]?=w.heap[b]?:=by unfold sO;rw [jE1 _ ⟨g,o+3,none⟩ _ b h,jE1 _ ⟨g,o+2,none⟩ _ b h,jE1 _ ⟨g,o+1,none⟩ _ b h,jE1 _ ⟨g,o,none⟩ _ b h]
theorem ku (w:jG9) (b b' o o':Nat) (u v:jGk) (h:b≠b'):(w.setCell ⟨b,o,none⟩ u).setCell ⟨b',o',none⟩ v=(w.setCell ⟨b',o',none⟩ v).setCell ⟨b,o,none⟩ u:=by
 unfold jF1;simp only [World.mk.injEq,and_true];apply Array.ext_getElem?;intro i;simp only [Array.getElem?_modify];by_cases h1:b=i
 ·subst h1;have hb:¬ b'=b:=fun e=>h e.symm
  simp [hb]
 ·simp [h1]
theorem uI (w:jG9) (S g o:Nat) (V c0 c1 c2 c3:jGk) (h:S≠g):sO (w.setCell ⟨S,0,none⟩ V) g o c0 c1 c2 c3=(sO w g o c0 c1 c2 c3).setCell ⟨S,0,none⟩ V:=by unfold sO;rw [ku w S g,ku _ S g,ku _ S g,ku _ S g]<;>exact h
theorem ZI {w:jG9} {g o:Nat} {c0 c1 c2 c3:jGk} {b j:Nat} {v:jGk} (h:w.cell? ⟨b,j,none⟩=some v) (hb:b≠g):(sO w g o c0 c1 c2 c3).cell? ⟨b,j,none⟩=some v:=by rw [jq (iq w g o c0 c1 c2 c3 b hb)];exact h
section
variable {T:TypeId} {U:Nat} {ok:Nat->Prop} {w0 w:jG9} {ds:List D} {rows:List (List jGk)} {v:jGk}
theorem Rw{P Q:Prop}(q:Q)(h:Nonempty Q->P:=by
 intro qQ;have hl:rows.length=n:=by have:=h.red.len;simp at this;omega
 have hfl:rows.flatten.length=n*4:=by rw [kZ 4 rows (fun r hr=>h.len r (by simp [hr])),hl]
 revert hl hfl;exact qQ.elim fun x=>x):P:=h ⟨q⟩
theorem aF.ZJ {g n c:Nat} {d0 d1:D} {a0 a1 a2 a3:Value} (h:aF T 4 ok U w0 (ds++[d0]) (rows++[[a0,a1,a2,a3]]) (.slice (some ⟨g,0,none⟩) (n+1) c) w) (hn:ds.length=n) (c0 c1 c2 c3:Value) (hd:Rd (fun b=>(ok b\/w0.heap.size<=b)/\g≠b/\b<U) w d1 [c0,c1,c2,c3]):aF T 4 ok U w0 (ds++[d1]) (rows++[[c0,c1,c2,c3]]) (.slice (some ⟨g,0,none⟩) (n+1) c) (sO w g (n*4) c0 c1 c2 c3):=by
 have hl:rows.length=n:=by have:=h.red.len;simp at this;omega
 have hfl:rows.flatten.length=n*4:=by rw [kZ 4 rows (fun r hr=>h.len r (by simp [hr])),hl]
 have hown:=h.own;have e1:(rows++[[a0,a1,a2,a3]]).flatten=rows.flatten++[a0,a1,a2,a3]:=by simp
 rw [e1,List.length_append,List.length_singleton,hn] at hown;have st:∀ (W:World) (zs:List Value),W.ownsRow w0.heap.size T 4 (.slice (some ⟨g,0,none⟩) (n+1) c) (n+1) (rows.flatten++zs)->∀ (j:Nat) (u:Value),(W.setCell ⟨g,n*4+j,none⟩ u).ownsRow w0.heap.size T 4 (.slice (some ⟨g,0,none⟩) (n+1) c) (n+1) (rows.flatten++zs.set j u):=by intro W zs hW j u;have:=(hW.stored (n*4+j) u).1;rw [List.set_append_right _ _ (by omega),hfl,Nat.add_sub_cancel_left] at this;exact this
 have o4:=st _ _ (st _ _ (st _ _ (st _ _ hown 0 c0) 1 c1) 2 c2) 3 c3;have hb:∀ b,b≠g->(sO w g (n*4) c0 c1 c2 c3).heap[b]?=w.heap[b]?:=fun b hb=>iq w g _ _ _ _ _ b hb
 have hz:(sO w g (n*4) c0 c1 c2 c3).heap.size=w.heap.size:=by simp [sO,World.setCell]
 have hg0:w0.heap.size<=g:=(h.own.lt g rfl).1;refine ⟨?_,?_,?_,?_,h.oU,h.Gg,by rw [hz];exact h.JJ⟩
 ·rw [show (rows++[[c0,c1,c2,c3]]).flatten=rows.flatten++[c0,c1,c2,c3] by simp,List.length_append,List.length_singleton,hn];exact o4
 ·obtain ⟨rA,rB,e2,hA,hB⟩:∃ rA rB,rows++[[a0,a1,a2,a3]]=rA++[rB]/\aR (fun b=>(ok b\/w0.heap.size<=b)/\(Value.slice (some ⟨g,0,none⟩) (n+1) c).ownBlock≠some b/\b<U) w ds rA/\True:=by
   refine ⟨rows,_,rfl,?_,trivial⟩;have h0:=h.red;clear st o4 hown;generalize hP:(fun b=>(ok b\/w0.heap.size<=b)/\(Value.slice (some ⟨g,0,none⟩) (n+1) c).ownBlock≠some b/\b<U)=P at h0;have gen:∀ (ds:List D) (rows:List (List Value)) (d0:D) (r0:List Value),aR P w (ds++[d0]) (rows++[r0])->rows.length=ds.length->aR P w ds rows:=by
    intro ds;induction ds with
    | nil=>intro rows d0 r0 _ hl;rw [List.eq_nil_of_length_eq_zero hl];exact aR.none
    | cons x ds ih=>
     intro rows d0 r0 hr hl;cases rows with
     | nil=>simp at hl
     | cons r rows=>
      obtain ⟨r',rs,e,h1,h2⟩:=hr.aI;have e':r'=r/\rs=rows++[r0]:=by simp at e;exact ⟨e.1.symm,e.2.symm⟩
      obtain ⟨rfl,rfl⟩:=e';exact aR.cons h1 (ih rows d0 r0 h2 (by simpa using hl))
   exact gen ds rows d0 _ h0 (by omega)
  have e3:rA=rows:=by have:=congrArg List.dropLast e2;simpa using this.symm
  subst e3;refine aR.app (aR.keep (fun b hb' _=>⟨hb',hb b (fun e=>by subst e;exact hb'.2.1 rfl)⟩) _ _ hA) (aR.one (Rd.keep (fun b hb' _=>⟨⟨hb'.1,fun e=>hb'.2.1 (by simpa [Value.ownBlock] using e),hb'.2.2⟩,hb b (fun e=>hb'.2.1 e.symm)⟩) _ _ hd))
 ·intro r hr;rcases List.mem_append.1 hr with hr | hr
  ·exact h.len r (by simp [hr])
  ·simp at hr;subst hr;rfl
 ·have hbel:=h.aM;exact (((hbel.setCell (p:=⟨g,n*4,none⟩) hg0 c0).setCell (p:=⟨g,n*4+1,none⟩) hg0 c1).setCell (p:=⟨g,n*4+2,none⟩) hg0 c2).setCell (p:=⟨g,n*4+3,none⟩) hg0 c3
theorem aF.Cw {g n c:Nat} {d0:D} {a0 a1 a2 a3:Value} (h:aF T 4 ok U w0 (ds++[d0]) (rows++[[a0,a1,a2,a3]]) (.slice (some ⟨g,0,none⟩) (n+1) c) w) (hn:ds.length=n) : w.cell? ⟨g,n*4,none⟩=some a0/\w.cell? ⟨g,n*4+1,none⟩=some a1/\w.cell? ⟨g,n*4+2,none⟩=some a2/\w.cell? ⟨g,n*4+3,none⟩=some a3/\∀ j,w.frozen? ⟨g,j,none⟩=false:=by
 have hl:rows.length=n:=by have:=h.red.len;simp at this;omega
 have hfl:rows.flatten.length=n*4:=by rw [kZ 4 rows (fun r hr=>h.len r (by simp [hr])),hl]
 have hc:∀ i u,[a0,a1,a2,a3][i]?=some u->w.cell? ⟨g,n*4+i,none⟩=some u:=by
  intro i u hu;have:=h.own.cells (g:=g) rfl (n*4+i) u (by
   rw [show (rows++[[a0,a1,a2,a3]]).flatten=rows.flatten++[a0,a1,a2,a3] by simp,List.getElem?_append_right (by omega),hfl,Nat.add_sub_cancel_left];exact hu)
  have e:((⟨g,0,none⟩:Addr).add (n*4+i))=⟨g,n*4+i,none⟩:=by unfold Addr.add;split<;>simp_all
  rwa [e] at this
 refine ⟨hc 0 _ rfl,hc 1 _ rfl,hc 2 _ rfl,hc 3 _ rfl,fun j=>?_⟩;rcases h.own.2 with ⟨h1,-⟩ | ⟨g',cap,cur,h1,-,h2,-⟩
 ·cases h1
 ·injection h1 with h1
  injection h1 with h1
  injection h1 with h1
  subst h1;simp [World.frozen?,h2]
theorem Oy {k n:Nat} {ops:Array Oper} {o:Oper} {a:Act} {K:Act->World->Prop} {Q:Exit->Act->World->Prop} {E:Prop} (hgd:o.guard=none) (s x:Operand) (t:TypeId) (ho:o.op=.call { callee:=.builtin .append,args:=#[s,x],argTypes:=#[t,t] }) (i:TypeInfo) (z:Value) (bytes:Nat) (ht:Tryz.prog.underlying t=some (.slice T)) (hi:Tryz.prog.info? T=some i) (hz:i.zero=some z) (hsize:i.size=k) (hby:i.bytes=bytes) (hzs:z.cells.size=k) (hsz:0<k) (h:aF T k ok U w0 ds rows v w) (hB:∀ b,ok b->b<w0.heap.size) (d:D) (r:List Value) (hx:Rd (fun b=>ok b\/U<=b) w d r) (hr:r.length=k) (h1:∀ u∈r,u.oneCell'=true) (hdn:ds.length=n) (hn:n<=10000000) (nQ:bytes<=1000) (hs:a.eval s=v) (hxe:a.eval x=.slice (some ⟨w.heap.size,0,none⟩) 1 1) (hK:∀ g c' w',aF T k ok w'.heap.size w0 (ds++[d]) (rows++[r]) (.slice (some ⟨g,0,none⟩) (n+1) c') w'->(w.alloc (.cells r.toArray T)).grownBy w' v.ownBlock->(v.ownBlock=some g\/w.heap.size<g)->n+1<=c'->K (a.put o.dst (.slice (some ⟨g,0,none⟩) (n+1) c')) w') : if Region.wanted o (yielded ops a.tmps)=true then Oper.wp Tryz.prog o a (w.alloc (.cells r.toArray T)) K Q else E:=by
 subst hdn;have hmul:(ds.length+1)*bytes<=140737488355328:=Nat.le_trans (Nat.mul_le_mul (show ds.length+1<=10000001 by omega) nQ) (by omega);refine step_append_lies _ hgd s x t ho w0.heap.size T i z k bytes ht hi hz hsize hby hzs hsz v ds.length rows.flatten hs (h.own.alloc _) ⟨w.heap.size,0,none⟩ 1 1 r hxe (by omega) (Gh w r T) h1 (by omega) (by unfold maxLen;omega) hmul (by have:=h.aM.size;simp;omega) (w.heap.size+1) (by simp) ?_;intro g cap w' hown hg hat _;have WU:v.ownBlock=some g\/w.heap.size<g:=hat.elim (fun e=>.inl (by rw [e])) (fun e=>.inr (by omega));have hcp:ds.length+1<=cap:=by obtain ⟨g',cap',he,hle⟩:=jE hown (by omega);injection he with _ _ he;omega
 refine hK _ _ w' ?_ hg WU hcp;refine h.put hB (aZ:=[r]) (es:=[d]) (aR.one (Rd.keep (fun b hb hlt=>⟨hb,Below.heap_alloc w _ b hlt⟩) _ _ hx)) (by simp [hr]) (World.grownBy_alloc w _ none) (by simpa using hown) hg (hat.elim (fun e=>.inl (by rw [e];rfl)) (fun e=>.inr (by rw [e];simp [Value.ownBlock])))
end
def Eu (S:Nat) (w:World) (N:List Nd) (vi:Value) (wr:World):Prop:=
 ∃ (k:Nat) (rows:List (List Value)) (v:Value) (U:Nat) (wB:World),k<=N.length/\vi=.int .i64 k/\wB.heap.size=S+2/\aF 35 4 (fun _=>False) U wB ((gP (N.take k)).1.map Nd.d) rows v wr /\
  aH S v 28 wr/\Es (S+1) U (Lib.strCells (gP (N.take k)).2) wr/\Below S w wr
theorem J9 {p:Nat} {w:World} {c0 c1 c2 c3 c4 c5 c6 c7 c8 c9:Value} (h:PB p [c0,c1,c2,c3,c4,c5,c6,c7,c8,c9] w) : w.cell? ⟨p,0,none⟩=some c0/\w.cell? ⟨p,1,none⟩=some c1/\w.cell? ⟨p,2,none⟩=some c2/\w.cell? ⟨p,3,none⟩=some c3/\w.cell? ⟨p,4,none⟩=some c4/\w.cell? ⟨p,5,none⟩=some c5 /\ w.cell? ⟨p,6,none⟩=some c6/\w.cell? ⟨p,7,none⟩=some c7/\w.cell? ⟨p,8,none⟩=some c8/\w.cell? ⟨p,9,none⟩=some c9:=
 ⟨h.cell 0 _ rfl,h.cell 1 _ rfl,h.cell 2 _ rfl,h.cell 3 _ rfl,h.cell 4 _ rfl,h.cell 5 _ rfl,h.cell 6 _ rfl,h.cell 7 _ rfl,h.cell 8 _ rfl,h.cell 9 _ rfl⟩
theorem qV.ZK {S:Nat} {w w':World} {at_:At} {ar:List ByteArray} {ci:List Ci} {ks:List aj} {vc vp va vi vk:Value} (h:qV (·<S) w at_ ar ci ks vc vp va vi vk) (hb:Below S w w') (hS:S<=w'.heap.size):qV (·<w'.heap.size) w' at_ ar ci ks vc vp va vi vk:=
 have hs:vM (·<S) (·<w'.heap.size) w w':=fun b (h1:b<S) _=>⟨by omega,hb.block b h1⟩
 ⟨⟨Rd.keep hs _ _ h.at_.cls,Rd.keep hs _ _ h.at_.aD⟩,Rd.keep hs _ _ h.args,Rd.keep hs _ _ h.fu,Rd.keep hs _ _ h.kids⟩
theorem Qj (s:ByteArray):s.toList.isEmpty=aW s:=by rw [Lib.toList_data,Bool.eq_iff_iff,List.isEmpty_iff,aW,decide_eq_true_iff]
theorem Rx {s:ByteArray} (h:aW s=false):0<s.size:=by
 unfold aW at h;rw [decide_eq_false_iff_not] at h;have:s.data.toList.length≠0:=fun e=>h (List.eq_nil_of_length_eq_zero e)
 have e2:s.data.toList.length=s.size:=by simp
 omega
theorem Es.WV {b U U':Nat} {w w':World} (h:Es b U [] w) (hs:w'.heap[b]?=w.heap[b]?) (hU:b<U'):Es b U' [] w':=
 h.imp (fun ⟨_,v,h2,_,h4⟩=>⟨hU,v,hs.trans h2,by rw [h4 rfl];exact World.ownsRowF_nil _ _ _ _,h4⟩) (fun ⟨_,v,h2,_,h4⟩=>⟨hU,v,hs.trans h2,by rw [h4 rfl];exact World.ownsRowF_nil _ _ _ _,h4⟩)
theorem bR{P Q:Prop}(q:Q)(h:Nonempty Q->P:=by
 intro qQ;try simp only [Act.put,List.setIfInBounds_toArray,List.set_cons_zero,List.set_cons_succ]
 exact qQ.elim fun x=>x):P:=h ⟨q⟩
theorem aL{P Q:Prop}(q:Q)(h:Nonempty Q->P:=by
 intro qQ;have hH:=hH2 (by decide) (by kernel_rfl);revert hH;exact qQ.elim fun x=>x):P:=h ⟨q⟩
theorem gF{P:Prop}(h:P:=by
 go_wp2;go_roundw;case rel=>exact HF.out
 case measure=>simp [intOf];omega):P:=h
theorem Ry{P Q:Prop}(q:Q)(h:Nonempty Q->P:=by
 intro qQ;obtain ⟨p,hp⟩:∃ p,p=wr.heap.size:=⟨_,rfl⟩;obtain ⟨wA,iw⟩:∃ wA,wA=wr.alloc (.cells #[.int .i64 kd,.string t,.string d,.string ti,.string at_.id,.slice ac nc cc,.slice ap np cp,.slice aa na ca,.slice ai ni mM,.slice ak nk ck] 66):=⟨_,rfl⟩;have PA:PB p [.int .i64 kd,.string t,.string d,.string ti,.string at_.id,.slice ac nc cc,.slice ap np cp,.slice aa na ca,.slice ai ni mM,.slice ak nk ck] wA:=by rw [iw,hp];exact heap_alloc_new wr _
 revert p hp wA iw PA;exact qQ.elim fun x=>x):P:=h ⟨q⟩
theorem nV{P Q:Prop}(q:Q)(h:Nonempty Q->P:=by
 intro qQ;go_simp;refine hK.out _ _ (fun h=>absurd rfl h) (fun _=>?_);exact qQ.elim fun x=>x):P:=h ⟨q⟩
theorem mJ{P Q:Prop}(q:Q)(h:Nonempty Q->P:=by
 intro qQ;refine fH (i:=6) rfl (by kernel_rfl) (fun KQ hK=>?_);go_simp;revert KQ hK;exact qQ.elim fun x=>x):P:=h ⟨q⟩
theorem ZL{P:Prop}(h:P:=by
 refine Om (by kernel_rfl) ?_ _;have hsw:=uI w5 S g5 (m3*4) (.slice (some ⟨g5,0,none⟩) (m3+1) c5) (.string nm) (.string tx) (.slice aA nA cA) (.slice aK nK cK) hSg;simp only [sO] at hsw;rw [hsw];clear hsw;exact REST):P:=h
theorem yV{P Q:Prop}(q:Q)(h:Nonempty Q->P:=by
 intro qQ;refine fH (i:=5) rfl (by kernel_rfl) (fun KQ hK=>?_);go_simp;revert KQ hK;exact qQ.elim fun x=>x):P:=h ⟨q⟩
theorem MJ{P Q:Prop}(q:Q)(h:Nonempty Q->P:=by
 intro qQ;refine hK.out _ _ (fun _ h=>absurd h (by decide)) (fun _=>?_);exact qQ.elim fun x=>x):P:=h ⟨q⟩
theorem ZM{P Q:Prop}(q:Q)(h:Nonempty Q->P:=by
 intro qQ;have hcap:l.length<=cap:=by simpa using hs.le
 have hll:=aj.fF l;have hmx:=hs.max;unfold maxLen at hmx;obtain ⟨N,hN⟩:∃ N,N=aj.MK l:=⟨_,rfl⟩;have hNl:N.length=l.length:=by rw [hN,pF,List.length_map]
 revert hcap hll hmx N hN hNl;exact qQ.elim fun x=>x):P:=h ⟨q⟩
theorem ZO{P:Prop}(h:P:=by
 intro x hx;rw [hN,pF] at hx;obtain ⟨y,hy,rfl⟩:=List.mem_map.1 hx;exact jqq y (aj.lZ l hsm y hy)):P:=h
theorem uG (n:Nat):∀ (l:List aj) (v:jGk) (w:jG9),aj.aY l<=n->n<=1000000->Rd (·<w.heap.size) w (bG l) [v]->aj.aB l->aj.Ka l -> Calls Tryz.prog 78 #[v] w (aO w (dQ l)):=by
 induction n using Nat.strongRecOn with
 | _ n ih=>
  intro l v w hn hnm hrd hsm htf;obtain ⟨iN,qB,fC,fD,fE⟩:=info_parts gY;obtain ⟨a,cap,hv,hs⟩:=Rd.ay hrd;obtain rfl:v=.slice a l.length cap:=by simpa using hv
  have hcap:l.length<=cap:=by simpa using hs.le
  have hll:=aj.fF l;have hmx:=hs.max;unfold maxLen at hmx;obtain ⟨N,hN⟩:∃ N,N=aj.MK l:=⟨_,rfl⟩;have hNl:N.length=l.length:=by rw [hN,pF,jDx]
  have hNt:∀ x∈N,x.tx.size<=300:=by intro x hx;rw [hN,pF] at hx;obtain ⟨y,hy,rfl⟩:=List.mem_map.1 hx;exact jqq y (aj.lZ l hsm y hy)
  have hNf:∀ x∈N,x.full:=by rw [hN];exact Gy l htf
  have jqx:dQ l=(gP N).1++bI (gP N).2:=by rw [hN];exact Rz l htf
  obtain ⟨S,hS⟩:∃ S,S=w.heap.size:=⟨_,rfl⟩;obtain ⟨W0,hW0⟩:∃ W,W=(w.alloc (.cells #[.slice none 0 0] 28)).alloc (.cells #[.pointer none,.slice none 0 0] 104):=⟨_,rfl⟩;have z0:W0.heap.size=S+2:=by rw [hW0,hS];simp
  have k0:aH S (.slice none 0 0) 28 W0:=by rw [hW0,hS];exact (aH.new w _ _).alloc _
  have k1:W0.heap[S+1]?=some (.cells #[.pointer none,.slice none 0 0] 104 (0,0)):=by
   rw [hW0,hS];have:=heap_alloc_new (w.alloc (.cells #[.slice none 0 0] 28)) (.cells #[.pointer none,.slice none 0 0] 104)
   rwa [World.size_alloc] at this
  have b0:Below S w W0:=by rw [hW0,hS];exact ((jD7 _ _).alloc (jD8 _) _).alloc (by simp) _
  have R0:Hid (Eu S w N (.int .i64 0) W0):=⟨0,[],_,S+2,W0,Nat.zero_le _,rfl,z0,by rw [<- z0];exact aF.nil _ _ _ _,k0,Es.new k1 (by omega),b0⟩;have HS:=hid hs;have IH:=hid ih;have cO:=hid hsm;have HTF:=hid htf;have HN:=hid hN;have Gz:=hid hNl;have HNT:=hid hNt;have HNF:=hid hNf;have nX:=hid jqx;have RA:=hid hS;have HW0:=hid hW0;clear hs hv hrd ih hsm htf hN hNl hNt hNf jqx hS hW0 z0 k0 k1 b0;go_enter Tryz.func78,Tryz.ntmps78;go_upto_region 3 with (fail)
  rw [<- RA.out,<- HW0.out];go_wp2
  go_loopw [12] (fun vi wr=>Eu S w N vi wr) (fun i _=>l.length-(intOf i).toNat)
  case atStart=>exact R0.out
  case round=>
   clear R0 HW0;obtain ⟨k,rows,v,U,wB,hk,rfl,ZP,hrow,hbx,hbd,hbel⟩:=hrel;rw [Gz.out] at hk;obtain ⟨P,hP⟩:∃ P,P=gP (N.take k):=⟨_,rfl⟩;rw [<- hP] at hrow hbd;obtain ⟨m,hm⟩:∃ m,m=(P.1.map Nd.d).length:=⟨_,rfl⟩;have hm2:m<=2*k:=by
    have h:=Gx (N.take k) ([],⟨#[]⟩);have h2:(N.take k).length<=k:=List.length_take_le _ _;have h3:P.1=((N.take k).foldl eB ([],⟨#[]⟩)).1:=by rw [hP];rfl
    rw [<- h3] at h;rw [hm,jDx];simp at h;omega
   have hpt:P.2.size<=300*k:=by
    have h:=MI (N.take k) ([],⟨#[]⟩) (fun x hx=>HNT.out x (List.mem_of_mem_take hx));have h2:(N.take k).length<=k:=List.length_take_le _ _;have h3:P.2=((N.take k).foldl eB ([],⟨#[]⟩)).2:=by rw [hP];rfl
    rw [<- h3] at h;have h4:(([]:List Nd),(⟨#[]⟩:ByteArray)).2.size=0:=rfl;omega
   obtain ⟨av,cv,rfl,-,-⟩:=hrow.cap hm.symm;have HM:=hid hm.symm;have HP:=hid hP;have bg:=hid hrow;have pY:=hid hbx;have nC:=hid hbd;have FE:=hid ZP;have hUr:=hrow.JJ;have hSU:S+2<=U:=by have:=hrow.Gg;omega
   have WW:Hid (P.1.length=m):=by show _=_;rw [hm,jDx]
   clear hrow hbx hbd hm hP ZP;by_cases hlt:k<l.length
   ·obtain ⟨x,hx⟩:∃ x,l[k]?=some x:=⟨_,jD6 hlt⟩;have hNk:N[k]?=some x.nd:=by rw [HN.out,pF,List.getElem?_map,hx];rfl
    have hst:=J7 N k x.nd hNk;rw [<- HP.out] at hst;have hfull:=HNF.out x.nd (jE4 hNk);have htx:=HNT.out x.nd (jE4 hNk);have hxs:=aj.lZ l cO.out x (jE4 hx);have hxt:=Ev l HTF.out x (jE4 hx);have hsz:=aj.bE l k _ hx;obtain ⟨X,hX⟩:∃ X,X=x.nd:=⟨_,rfl⟩;rw [<- hX] at hst hfull htx;obtain ⟨kd,t,d,ti,at_,ar,ci,ks⟩:=x;obtain ⟨g,off,vc,vp,va,vi,vk,rfl,hok,hbl,hc,hR⟩:=L9 HS.out hx;obtain ⟨c0,c1,c2,c3,c4,c5,c6,c7,c8,c9⟩:=hc.below (show Below w.heap.size w wr by rw [<- RA.out];exact hbel);rw [aj.sz] at hsz;obtain ⟨ac,nc,cc,rfl⟩:=Rd.au hR.at_.cls
    obtain ⟨ap,np,cp,rfl⟩:=Rd.au hR.at_.aD
    obtain ⟨aa,na,ca,rfl⟩:=Rd.au hR.args;obtain ⟨ai,ni,mM,rfl⟩:=Rd.au hR.fu;obtain ⟨ak,nk,ck,rfl⟩:=Rd.au hR.kids;have HR:Hid (qV (·<S) w at_ ar ci ks (.slice ac nc cc) (.slice ap np cp) (.slice aa na ca) (.slice ai ni mM) (.slice ak nk ck)):=by rw [RA.out];exact hR
    have HST:=hid hst;have HX:=hid hX;have RD:=hid hfull;have HXS:=hid hxs;have HXT:=hid hxt;have iM:=hid hbel;have hSr:S<=wr.heap.size:=by have:=hbel.size;have:=RA.out;omega
    clear hc hok hbl hR hst hX hfull hxs hxt hNk hx hbel;go_upto_region 7 with (fail)
    obtain ⟨p,hp⟩:∃ p,p=wr.heap.size:=⟨_,rfl⟩;obtain ⟨wA,iw⟩:∃ wA,wA=wr.alloc (.cells #[.int .i64 kd,.string t,.string d,.string ti,.string at_.id,.slice ac nc cc,.slice ap np cp,.slice aa na ca,.slice ai ni mM,.slice ak nk ck] 66):=⟨_,rfl⟩;have PA:PB p [.int .i64 kd,.string t,.string d,.string ti,.string at_.id,.slice ac nc cc,.slice ap np cp,.slice aa na ca,.slice ai ni mM,.slice ak nk ck] wA:=by rw [iw,hp];exact heap_alloc_new wr _
    have bA:Below wr.heap.size wr wA:=by rw [iw];exact (jD7 _ _).alloc (jD8 _) _
    rw [<- iw,<- hp];obtain ⟨e0,e1,e2,e3,e4,e5,e6,e7,e8,e9⟩:=J9 PA;have zA:=bA.size;have BA:=hid (iM.out.trans (bA.mono hSr));have HRA:=HR.out.ZK BA.out (by omega);have LC:GA wA ks (.slice ak nk ck):=fun W hW=>by
     have hsk:=HXS.out;rw [aj.small] at hsk;have htk:=HXT.out;rw [aj.tf] at htk;exact IH.out (aj.aY ks) (by omega) ks _ W (jD8 _) (by omega) (HRA.kids.up hW) hsk.2.2.2.2.2.2.2.2 htk.2
    have IC:=Kc kd t d ti at_ ar ci ks _ _ _ _ _ wA HRA HXS.out LC (by omega)
    rw [<- HX.out] at IC;have IL:=hid IC;have Ew:=hid bA;clear iw hp c0 c1 c2 c3 c4 c5 c6 c7 c8 c9 HRA LC IC PA bA;go_wp2_with fail
    (with_reducible refine IL.out.mono ?_)
    rintro e w1 ⟨vA,vK,rfl,VW,b1⟩;obtain ⟨aA,nA,cA,rfl⟩:=Rd.au VW.at_
    obtain ⟨aK,nK,cK,rfl⟩:=Rd.au VW.ks;have HND:=hid VW;have B1:=hid b1;have z1:=b1.size;clear e0 e1 e2 e3 e4 e5 e6 e7 e8 e9 VW b1 IL;obtain ⟨nm,tx,XA,XK⟩:=X;dsimp only [Nd.nm,Nd.tx,Nd.at_,Nd.ks] at htx HND;dsimp only [Nd.nm,Nd.tx];go_upto_region 8 with (fail)
    obtain ⟨q,hq⟩:∃ q,q=w1.heap.size:=⟨_,rfl⟩;obtain ⟨wN,hwN⟩:∃ wN,wN=w1.alloc (.cells #[.string nm,.string tx,.slice aA nA cA,.slice aK nK cK] 35):=⟨_,rfl⟩;have KN:CB 35 q [.string nm,.string tx,.slice aA nA cA,.slice aK nK cK] wN:=by rw [hwN,hq];exact CB.new _ _ w1
    have bN:Below w1.heap.size w1 wN:=by rw [hwN];exact (jD7 _ _).alloc (jD8 _) _
    have zN:wN.heap.size=q+1:=by rw [hwN,hq];simp
    have hqr:wA.heap.size<=q:=by rw [hq];exact z1
    have HQ:=hid hq;rw [<- hwN,<- hq];have BN:=hid (q01 Ew.out (q01 B1.out bN));have HN1:=hid bN;have f0:=KN.cell 0 _ rfl;have f1:=KN.cell 1 _ rfl;have ZQ:=hid KN;have ZN:=hid zN;have hzr:=BN.out.size;clear hwN hq KN bN zN;by_cases hem:aW nm=true
    ·have q1:nm.toList.isEmpty=true:=by rw [Qj];exact hem
     have q2:nm.toList=[]:=by rw [List.isEmpty_iff] at q1;exact q1
     have htp:0<tx.size:=Rx (RD.out hem).2;have RG:Hid (gP (N.take (k+1))=(P.1,P.2++tx)):=by show _=_;rw [HST.out];unfold eB;rw [if_pos (show aW (Nd.mk nm tx XA XK).nm=true from hem)];rfl
     have WS:=hid (Bt (S+1) U (Lib.strCells P.2) tx wN (nC.out.below BN.out) (by rw [Lib.strCells_length];omega) (by omega) htp);clear hem HST RD;go_wp2_with fail
     (with_reducible refine WS.out.mono ?_)
     rintro e w2 ⟨rfl,jqz,hb2⟩;have hR2:=bg.out.reU (w':=w2) (by have:=hb2.size;omega) (fun b h1 h2=>(hb2.blk b h2 (by have:=FE.out;omega)).trans (BN.out.block b (by omega)));obtain ⟨wB2,jr0,hrow2⟩:=hR2;have HF:Hid (Eu S w N (.int .i64 ((k+1:Nat):Int)) w2):=by
      refine ⟨k+1,rows,.slice av m cv,U,wB2,by rw [Gz.out];omega,rfl,jr0.trans FE.out,?_,?_,?_,?_⟩
      ·rw [RG.out];exact hrow2
      ·exact (hb2.blk S (by omega) (by omega)).trans ((BN.out.block S (by omega)).trans pY.out)
      ·rw [RG.out,Et];exact jqz
      ·exact iM.out.trans ((BN.out.mono hSr).trans (hb2.below (by omega) (by omega)))
     clear jqz hb2 jr0 hrow2 WS f0 f1 q1 q2;go_wp2;go_roundw;case rel=>exact HF.out
     case measure=>simp [intOf];omega
    ·have q1:nm.toList.isEmpty=false:=by rw [Qj];simpa using hem
     have RG:Hid (gP (N.take (k+1))=(P.1++bI P.2++[.mk nm tx XA XK],⟨#[]⟩)):=by show _=_;rw [HST.out];unfold eB;rw [if_neg (show ¬ aW (Nd.mk nm tx XA XK).nm=true from hem)]
     have FC:=Cv S U P.2.data.toList P.1 rows (.slice av m cv) wr wN wB (by have:=FE.out;omega) bg.out pY.out nC.out BN.out (by rw [WW.out];omega);rw [Ey] at FC;have FL:=hid FC;clear hem HST RD FC;go_wp2_with fail
     (with_reducible refine FL.out.mono ?_)
     rintro e w3 ⟨rfl,dD,v3,wB3,jkq,hrow3,Oz,WX,wM,hkp3,hb3⟩;obtain ⟨m3,Ke⟩:∃ m,m=(List.map Nd.d (P.1++bI P.2)).length:=⟨_,rfl⟩;have jr1:m3<=m+1:=by
      rw [Ke,jDx,jDq,WW.out];have:(bI P.2).length<=1:=by unfold bI;split<;>simp
      omega
     obtain ⟨a3,c3,rfl,hc3,jx4⟩:=hrow3.cap Ke.symm;unfold maxLen at jx4;have VX:=hid Ke.symm;have U3:=hid hrow3.drew;have kq3:CB 35 q [.string nm,.string tx,.slice aA nA cA,.slice aK nK cK] w3:=(hkp3 q (by omega) (by have:=ZN.out;omega)).trans ZQ.out;have NR3:Hid (Rd (fun b=>wA.heap.size<=b/\b<q) w3 (Nd.mk nm tx XA XK).d [.string nm,.string tx,.slice aA nA cA,.slice aK nK cK]):=
      Nd.dJ nm tx (HND.out.keep (fun b (h1:wA.heap.size<=b) h2=>⟨⟨h1,by rw [HQ.out];exact h2⟩,(hkp3 b (by omega) (by have:=ZN.out;have:=HQ.out;omega)).trans (HN1.out.block b h2)⟩))
     have S0:w3.drew.cell? ⟨S,0,none⟩=some (.slice a3 m3 c3)/\w3.drew.cell? ⟨q,0,none⟩=some (.string nm)/\w3.drew.cell? ⟨q,1,none⟩=some (.string tx)/\w3.drew.cell? ⟨q,2,none⟩=some (.slice aA nA cA)/\w3.drew.cell? ⟨q,3,none⟩=some (.slice aK nK cK):=⟨Oz.cell,kq3.cell 0 _ rfl,kq3.cell 1 _ rfl,kq3.cell 2 _ rfl,kq3.cell 3 _ rfl⟩;have hov:∀ g,(Value.slice a3 m3 c3).ownBlock=some g->S+2<=g/\(g<wr.heap.size\/wN.heap.size<=g):=fun g hg=>⟨by have:=(hrow3.own.lt g hg).1;have:=FE.out;omega,wM g hg⟩
     have J5:=hid hov;have jx5:=hid Oz;have jkx:=hid WX;have HB3:=hid hb3;have WY:=hid jkq;have HKQ:=hid kq3;have hz3:=hb3.size;have jx6:S<w3.heap.size:=Oz.lt;clear Ke hrow3 Oz WX hb3 jkq wM hkp3 kq3 hov FL f0 f1 q1;go_upto_region 11 with (fail)
     refine Je 7 (fun w'=>w'.cell? ⟨S,0,none⟩=some (.slice a3 m3 c3)/\w'.cell? ⟨q,0,none⟩=some (.string nm)/\w'.cell? ⟨q,1,none⟩=some (.string tx)/\w'.cell? ⟨q,2,none⟩=some (.slice aA nA cA)/\w'.cell? ⟨q,3,none⟩=some (.slice aK nK cK)) (by kernel_rfl) S0 ?_;intro hH;refine eY 0 rfl (by kernel_rfl) hH (by rfl) (by intro wv hSw;(try dsimp only at hSw);go_simp;try with_reducible rfl) ?_;refine eY 1 rfl (by kernel_rfl) hH (by rfl) (by intro wv hSw;(try dsimp only at hSw);go_simp;try with_reducible rfl) ?_;refine eY 2 rfl (by kernel_rfl) hH (by rfl) (by intro wv hSw;(try dsimp only at hSw);go_simp;try with_reducible rfl) ?_;try simp only [Act.put,jD3,jD4,jD5]
     refine fH (i:=3) rfl (by kernel_rfl) (fun KQ hK=>?_);go_simp;refine hK.out _ _ (fun _ _=>⟨past S0.1 _,past S0.2.1 _,past S0.2.2.1 _,past S0.2.2.2.1 _,past S0.2.2.2.2 _⟩) (fun hH2=>?_);clear hK KQ hH;have hH:=hH2 (by decide) (by kernel_rfl);clear hH2;try simp only [Act.put,jD3,jD4,jD5]
     refine fH (i:=4) rfl (by kernel_rfl) (fun KQ hK=>?_);refine Oy rfl (.tmp 26) (.tmp 29) 28 rfl iN _ 80 Tryz.underlying28 qB fC fD fE rfl (by decide) U3.out (fun _=>False.elim) (Nd.mk ⟨#[]⟩ ⟨#[]⟩ [] []).d [.string ⟨#[]⟩,.string ⟨#[]⟩,.slice none 0 0,.slice none 0 0] (Nd.dJ ⟨#[]⟩ ⟨#[]⟩ ⟨Rd.aC _ _ _,Rd.aC _ _ _⟩) rfl Fz VX.out (by omega) (by decide) rfl rfl ?_;intro g5 c5 w5 aX hg5 RJ Qk;have hgS:S+2<=g5/\g5≠q/\(g5<wr.heap.size\/wN.heap.size<=g5):=by
      have hz9:w3.drew.heap.size=w3.heap.size:=rfl;rcases RJ with h | h
      ·have:=J5.out g5 h;have:=ZN.out;omega
      ·have:=ZN.out;omega
     have hnv:∀ b,b=S\/b=q->some b≠(Value.slice a3 m3 c3).ownBlock:=fun b hb e=>by
      have:=J5.out b e.symm;have:=ZN.out;omega
     have S5:w5.cell? ⟨S,0,none⟩=some (.slice a3 m3 c3)/\w5.cell? ⟨q,0,none⟩=some (.string nm)/\w5.cell? ⟨q,1,none⟩=some (.string tx)/\w5.cell? ⟨q,2,none⟩=some (.slice aA nA cA)/\w5.cell? ⟨q,3,none⟩=some (.slice aK nK cK):=⟨(World.grownBy.cell_far hg5 ⟨S,0,none⟩ (by simp;omega) (hnv S (.inl rfl))).trans (past S0.1 _),(World.grownBy.cell_far hg5 ⟨q,0,none⟩ (by simp;have:=ZN.out;omega) (hnv q (.inr rfl))).trans (past S0.2.1 _),(World.grownBy.cell_far hg5 ⟨q,1,none⟩ (by simp;have:=ZN.out;omega) (hnv q (.inr rfl))).trans (past S0.2.2.1 _),(World.grownBy.cell_far hg5 ⟨q,2,none⟩ (by simp;have:=ZN.out;omega) (hnv q (.inr rfl))).trans (past S0.2.2.2.1 _),(World.grownBy.cell_far hg5 ⟨q,3,none⟩ (by simp;have:=ZN.out;omega) (hnv q (.inr rfl))).trans (past S0.2.2.2.2 _)⟩;obtain ⟨y0,y1,y2,y3,yf⟩:=aX.Cw VX.out;have t0:(0:Int)<=(m3:Int):=by omega
     have t1:(m3:Int)<((m3+1:Nat):Int):=by omega
     have t2:(m3:Int)<(m3:Int)+1:=by omega
     have t3:m3<m3+1:=by omega
     have U5:=hid aX;have ZR:=hid hg5;have hz5:w3.heap.size+1<=w5.heap.size:=by have:=hg5.size;simp at this;exact this
     have hSg:S≠g5:=by omega
     have hqg:q≠g5:=fun e=>hgS.2.1 e.symm
     have WZ:aH S (.slice a3 m3 c3) 28 w5:=(hg5.block S (by simp;omega) (hnv S (.inl rfl))).trans ((jE2 w3 _ S jx6).trans jx5.out);have zf5:=WZ.free;have z5:=WZ.cell;obtain ⟨wZ,hzZ,GD⟩:=aX.hop2 (p:=S) (by have:=WY.out;have:=FE.out;omega) (show w5.grownBy (w5.setCell ⟨S,0,none⟩ (.slice (some ⟨g5,0,none⟩) (m3+1) c5)) (some S) from ⟨rfl,rfl,rfl,by simp [jF1],fun b _ hb=>jE1 w5 ⟨S,0,none⟩ _ b (fun e=>hb (by rw [e]))⟩);obtain ⟨u0,u1,u2,u3,uf⟩:=GD.Cw VX.out;have BX5:=hid WZ;clear GD hzZ WZ aX hg5 RJ hnv S0;refine hK.out _ _ (fun _ _=>S5) (fun hH2=>?_);clear hK KQ hH;have hH:=hH2 (by decide) (by kernel_rfl);clear hH2;try simp only [Act.put,jD3,jD4,jD5]
     apply jr2;case hm=>
      intro REST;refine ML (i:=5) (j:=7) rfl rfl (by kernel_rfl) (fun KQ hK=>?_) (fun KQ hK=>?_);rotate_left
      ·go_simp;refine hK.out _ _ (fun h=>absurd rfl h) (fun _=>?_);clear hK KQ;try simp only [Act.put,jD3,jD4,jD5]
       refine fH (i:=5) rfl (by kernel_rfl) (fun KQ hK=>?_);go_simp;refine hK.out _ _ (fun _ h=>absurd h (by decide)) (fun _=>?_);clear hK KQ;try simp only [Act.put,jD3,jD4,jD5]
       refine fH (i:=6) rfl (by kernel_rfl) (fun KQ hK=>?_);go_simp;refine hK.out _ _ (fun _ h=>absurd h (by decide)) (fun _=>?_);clear hK KQ;try simp only [Act.put,jD3,jD4,jD5]
       refine Om (by kernel_rfl) ?_ _;have hsw:=uI w5 S g5 (m3*4) (.slice (some ⟨g5,0,none⟩) (m3+1) c5) (.string nm) (.string tx) (.slice aA nA cA) (.slice aK nK cK) hSg;simp only [sO] at hsw;rw [hsw];clear hsw;exact REST
      go_simp;refine hK.out _ _ (fun _ _=>S5) (fun hH2=>?_);clear hK KQ;have hH:=hH2 (by decide) (by kernel_rfl);clear hH2;try simp only [Act.put,jD3,jD4,jD5]
      refine ML (i:=6) (j:=7) rfl rfl (by kernel_rfl) (fun KQ hK=>?_) (fun KQ hK=>?_)
      ·go_simp;have S6:jF0 ((((w5.setCell ⟨g5,m3*4,none⟩ (.string nm)).setCell ⟨g5,m3*4+1,none⟩ (.string tx)).setCell ⟨g5,m3*4+2,none⟩ (.slice aA nA cA)).setCell ⟨g5,m3*4+3,none⟩ (.slice aK nK cK)) ⟨S,0,none⟩=some (.slice a3 m3 c3)/\jF0 ((((w5.setCell ⟨g5,m3*4,none⟩ (.string nm)).setCell ⟨g5,m3*4+1,none⟩ (.string tx)).setCell ⟨g5,m3*4+2,none⟩ (.slice aA nA cA)).setCell ⟨g5,m3*4+3,none⟩ (.slice aK nK cK)) ⟨q,0,none⟩=some (.string nm)/\jF0 ((((w5.setCell ⟨g5,m3*4,none⟩ (.string nm)).setCell ⟨g5,m3*4+1,none⟩ (.string tx)).setCell ⟨g5,m3*4+2,none⟩ (.slice aA nA cA)).setCell ⟨g5,m3*4+3,none⟩ (.slice aK nK cK)) ⟨q,1,none⟩=some (.string tx)/\jF0 ((((w5.setCell ⟨g5,m3*4,none⟩ (.string nm)).setCell ⟨g5,m3*4+1,none⟩ (.string tx)).setCell ⟨g5,m3*4+2,none⟩ (.slice aA nA cA)).setCell ⟨g5,m3*4+3,none⟩ (.slice aK nK cK)) ⟨q,2,none⟩=some (.slice aA nA cA)/\jF0 ((((w5.setCell ⟨g5,m3*4,none⟩ (.string nm)).setCell ⟨g5,m3*4+1,none⟩ (.string tx)).setCell ⟨g5,m3*4+2,none⟩ (.slice aA nA cA)).setCell ⟨g5,m3*4+3,none⟩ (.slice aK nK cK)) ⟨q,3,none⟩=some (.slice aK nK cK):=show jF0 (sO w5 g5 (m3*4) (.string nm) (.string tx) (.slice aA nA cA) (.slice aK nK cK)) ⟨S,0,none⟩=some (.slice a3 m3 c3)/\jF0 (sO w5 g5 (m3*4) (.string nm) (.string tx) (.slice aA nA cA) (.slice aK nK cK)) ⟨q,0,none⟩=some (.string nm)/\jF0 (sO w5 g5 (m3*4) (.string nm) (.string tx) (.slice aA nA cA) (.slice aK nK cK)) ⟨q,1,none⟩=some (.string tx)/\jF0 (sO w5 g5 (m3*4) (.string nm) (.string tx) (.slice aA nA cA) (.slice aK nK cK)) ⟨q,2,none⟩=some (.slice aA nA cA)/\jF0 (sO w5 g5 (m3*4) (.string nm) (.string tx) (.slice aA nA cA) (.slice aK nK cK)) ⟨q,3,none⟩=some (.slice aK nK cK) from ⟨ZI S5.1 hSg,ZI S5.2.1 hqg,ZI S5.2.2.1 hqg,ZI S5.2.2.2.1 hqg,ZI S5.2.2.2.2 hqg⟩
       have z6:=S6.1;have bx6:aH S (.slice a3 m3 c3) 28 ((((w5.setCell ⟨g5,m3*4,none⟩ (.string nm)).setCell ⟨g5,m3*4+1,none⟩ (.string tx)).setCell ⟨g5,m3*4+2,none⟩ (.slice aA nA cA)).setCell ⟨g5,m3*4+3,none⟩ (.slice aK nK cK)):=(iq w5 g5 (m3*4) (.string nm) (.string tx) (.slice aA nA cA) (.slice aK nK cK) S hSg).trans BX5.out;have zf:=bx6.free;refine hK.out _ _ (fun _ _=>S6) (fun hH2=>?_);clear hK KQ hH;have hH:=hH2 (by decide) (by kernel_rfl);clear hH2;try simp only [Act.put,jD3,jD4,jD5]
       refine fH (i:=7) rfl (by kernel_rfl) (fun KQ hK=>?_);go_simp;refine hK.out _ _ (fun h=>absurd rfl h) (fun _=>?_);clear hK KQ hH;try simp only [Act.put,jD3,jD4,jD5]
       refine Om (by kernel_rfl) ?_ _;clear S6 z6 bx6 zf;exact REST
      ·go_simp;refine hK.out _ _ (fun h=>absurd rfl h) (fun _=>?_);clear hK KQ hH;try simp only [Act.put,jD3,jD4,jD5]
       refine fH (i:=6) rfl (by kernel_rfl) (fun KQ hK=>?_);go_simp;refine hK.out _ _ (fun _ h=>absurd h (by decide)) (fun _=>?_);clear hK KQ;try simp only [Act.put,jD3,jD4,jD5]
       refine Om (by kernel_rfl) ?_ _;have hsw:=uI w5 S g5 (m3*4) (.slice (some ⟨g5,0,none⟩) (m3+1) c5) (.string nm) (.string tx) (.slice aA nA cA) (.slice aK nK cK) hSg;simp only [sO] at hsw;rw [hsw];clear hsw;exact REST
     case hr=>
      clear S5 y0 y1 y2 y3 yf u0 u1 u2 u3 uf zf5 z5 t0 t1 t2 t3;have hr6:=U5.out.ZJ VX.out (.string nm) (.string tx) (.slice aA nA cA) (.slice aK nK cK) (d1:=(Nd.mk nm tx XA XK).d) (Rd.keep (fun b hb hlt=>⟨⟨.inr (by have:=WY.out;have:=FE.out;omega),(fun e=>by subst e;have:=ZN.out;omega),by omega⟩,(ZR.out.block b (by simp;omega) (fun e=>by have:=J5.out b e.symm;have:=ZN.out;omega)).trans (jE2 w3 _ b hlt)⟩) _ _ NR3.out);obtain ⟨w6,pG⟩:∃ w6,w6=sO w5 g5 (m3*4) (.string nm) (.string tx) (.slice aA nA cA) (.slice aK nK cK):=⟨_,rfl⟩;have hb6:∀ b,b≠g5->w6.heap[b]?=w5.heap[b]?:=fun b hb=>by rw [pG];exact iq _ _ _ _ _ _ _ b hb
      have jr3:aH S (.slice a3 m3 c3) 28 w6:=(hb6 S hSg).trans BX5.out;rw [<- pG] at hr6;have jkz:=pG;simp only [sO] at jkz;rw [<- jkz];clear jkz;have hz6:w6.heap.size=w5.heap.size:=by rw [pG];simp [sO,jF1]
      obtain ⟨w7,hw7⟩:∃ w7,w7=w6.setCell ⟨S,0,none⟩ (.slice (some ⟨g5,0,none⟩) (m3+1) c5):=⟨_,rfl⟩;rw [<- hw7];have bx7:aH S (.slice (some ⟨g5,0,none⟩) (m3+1) c5) 28 w7:=by rw [hw7];exact jr3.set _
      have g7:w6.grownBy w7 (some S):=by rw [hw7];exact ⟨rfl,rfl,rfl,by simp [jF1],fun b _ hb=>jE1 w6 ⟨S,0,none⟩ _ b (fun e=>hb (by rw [e]))⟩
      have hz7:w7.heap.size=w6.heap.size:=by rw [hw7];simp [jF1]
      obtain ⟨wB7,hB7,MN⟩:=hr6.hop2 (p:=S) (by have:=WY.out;have:=FE.out;omega) g7;have Ql:∀ b,b<w3.heap.size->b≠S->b≠g5->(∀ g,(Value.slice a3 m3 c3).ownBlock=some g->b≠g)->w7.heap[b]?=w3.heap[b]?:=fun b h1 h2 h3 h4=>
       (g7.block b (by omega) (fun e=>h2 (jE0 e))).trans ((hb6 b h3).trans ((ZR.out.block b (by simp;omega) (fun e=>h4 b e.symm rfl)).trans (jE2 w3 _ b h1)))
      have hr7:aF 35 4 (fun _=>False) w7.heap.size wB7 ((gP (N.take (k+1))).1.map Nd.d) (dD++[[.string nm,.string tx,.slice aA nA cA,.slice aK nK cK]]) (.slice (some ⟨g5,0,none⟩) (m3+1) c5) w7:=by rw [RG.out];show aF _ _ _ _ _ (List.map Nd.d (P.1++bI P.2++[.mk nm tx XA XK])) _ _ _;rw [jE8];exact MN.up (by omega) (jD8 _)
      have HF:Hid (Eu S w N (.int .i64 ((k+1:Nat):Int)) w7):=by
       refine ⟨k+1,_,.slice (some ⟨g5,0,none⟩) (m3+1) c5,w7.heap.size,wB7,by rw [Gz.out];omega,rfl,hB7.trans (WY.out.trans FE.out),hr7,bx7,?_,?_⟩
       ·rw [RG.out];exact jkx.out.WV (Ql (S+1) (by have:=jkx.out.lt;exact this) (by omega) (by omega) (fun g hg=>by have:=(J5.out g hg).1;omega)) (by have:=jkx.out.lt;omega)
       ·refine iM.out.trans ((BN.out.mono hSr).trans (HB3.out.trans ⟨?_,?_,?_,by omega,fun b hb=>Ql b (by omega) (by omega) (by omega) (fun g hg=>by have:=(J5.out g hg).1;omega)⟩))
        ·rw [hw7,pG];exact ZR.out.os
        ·rw [hw7,pG];exact ZR.out.tape
        ·rw [hw7,pG];exact ZR.out.output
      clear hr6 hr7 MN hB7 g7 bx7 hw7 jr3 pG hb6 Ql;go_wp2;go_roundw;case rel=>exact HF.out
      case measure=>simp [intOf];omega
   ·have hkl:k=l.length:=by omega
    subst hkl;have hPN:P=gP N:=by rw [HP.out,jEj (by rw [Gz.out];exact jD8 _)]
    have FC:=Cv S U P.2.data.toList P.1 rows (.slice av m cv) wr wr wB (by have:=FE.out;omega) bg.out pY.out nC.out (jD7 _ _) (by rw [WW.out];omega);rw [Ey,hPN,<- nX.out] at FC;have FL:=hid FC;clear FC;go_wp2_with fail
    (with_reducible refine FL.out.mono ?_)
    rintro e w3 ⟨rfl,dD,v3,wB3,jkq,hrow3,Oz,WX,wM,hkp3,hb3⟩;have x0:=Oz.cell;have HF:Hid (aO w (dQ l) (.returned v3) w3):=by
     refine ⟨dD,v3,rfl,hrow3.lV ?_ ?_⟩
     ·have:=RA.out;have:=FE.out;omega
     ·rw [<- RA.out];exact hbel.trans hb3
    clear hrow3 WX hb3 wM hkp3 FL;go_wp2;go_ret;exact HF.out
open Go.RowKit
theorem nU (n:ByteArray) (a1 a2:Option Addr) (n1 n2 c1 c2:Nat) (w:jG9) : Calls Tryz.prog 48 #[.string n,.slice a1 n1 c1,.slice a2 n2 c2] w fun e w'=>e=.returned (.agg #[.string n,.string ⟨#[]⟩,.slice a1 n1 c1,.slice a2 n2 c2])/\Below w.heap.size w w':=by go_enter Tryz.func48,Tryz.ntmps48;go_wp2;exact bodyPost_ret (v:=.agg #[.string n,.string ⟨#[]⟩,.slice a1 n1 c1,.slice a2 n2 c2]) (by simp [results,Tryz.results48,go_sem]) rfl ⟨rfl,(jD7 _ _).alloc (jD8 _) _⟩
theorem W9 (s:ByteArray) (w:jG9):Calls Tryz.prog 98 #[.string s] w (aO w (bI s)):=by
 by_cases hs:aW s=true
 ·have q1:s.toList.isEmpty=true:=by rw [Qj];exact hs
  have E:Hid (bI s=[]):=by show _=_;unfold bI;rw [if_pos hs]
  clear hs;go_enter Tryz.func98,Tryz.ntmps98;go_wp2;go_ret;rw [E.out];exact aO.nil w w (jD7 _ _)
 ·have q1:s.toList.isEmpty=false:=by rw [Qj];simpa using hs
  have E:Hid (bI s=[Cm s]):=by show _=_;unfold bI;rw [if_neg hs]
  clear hs;go_enter Tryz.func98,Tryz.ntmps98;go_wp2;go_ret;rw [E.out];exact ⟨_,_,rfl,aF.one (r:=[.string ⟨#[]⟩,.string s,.slice none 0 0,.slice none 0 0]) rfl (Nd.dJ ⟨#[]⟩ s ⟨Rd.aC _ _ _,Rd.aC _ _ _⟩)⟩
theorem Qm (k s:ByteArray) (w:jG9):Calls Tryz.prog 49 #[.string k,.string s] w (aU w (bU k s)):=by
 by_cases hs:aW s=true
 ·have q1:s.toList.isEmpty=true:=by rw [Qj];exact hs
  have E:Hid (bU k s=[]):=by show _=_;unfold bU;rw [if_pos hs]
  clear hs;go_enter Tryz.func49,Tryz.ntmps49;go_wp2;go_ret;rw [E.out];exact aU.nil w w (jD7 _ _)
 ·have q1:s.toList.isEmpty=false:=by rw [Qj];simpa using hs
  have E:Hid (bU k s=[⟨k,s⟩]):=by show _=_;unfold bU;rw [if_neg hs]
  clear hs;go_enter Tryz.func49,Tryz.ntmps49;go_wp2;go_ret;rw [E.out];exact ⟨_,_,rfl,aF.one (r:=[.string k,.string s]) rfl (Pr.dJ _ _ ⟨k,s⟩)⟩
theorem Cx (m:ByteArray) (l:List ByteArray) (k:Nat) (x:ByteArray) (h:l[k]?=some x):lF m (l.take (k+1))=(if aW (lF m (l.take k))=true then lF m (l.take k) else lF m (l.take k)++J6)++x:=by unfold lF;rw [List.take_add_one,h,List.foldl_append];rfl
theorem GH (m:ByteArray):∀ (l:List ByteArray) (n:Nat),(∀ x∈l,x.size<=n)->∀ k,(lF m (l.take k)).size<=m.size+k*(n+1)
 | l,n,h,0=>by simp [lF]
 | l,n,h,k+1=>by
  have ih:=GH m l n h k;by_cases hk:k<l.length
  ·rw [Cx m l k l[k] (jD6 hk)];have hx:=h l[k] (List.getElem_mem hk);have e:J6.size=1:=rfl;split
   ·rw [ByteArray.size_append,Nat.add_mul];omega
   ·rw [ByteArray.size_append,ByteArray.size_append,Nat.add_mul];omega
  ·rw [jEj (by omega)];rw [jEj (by omega)] at ih;rw [Nat.add_mul];omega
def ZU (m:ByteArray) (l:List ByteArray) (vc vi:jGk):Prop:=∃ k:Nat,k<=l.length/\vi=.int .i64 k/\vc=.string (lF m (l.take k))
theorem ZV{P:Prop}(h:P:=by
 go_wp2
 go_round
 case rel=>exact ⟨k+1,by have:=HN.out;omega,by go_num,by rw [HX2.out]⟩
 case measure=>simp [intOf];omega):P:=h
theorem jF (a:At) (m:ByteArray) (vc vp:jGk) (w:jG9) (hR:AtR (·<w.heap.size) w a vc vp) (hl:a.cls.length<=100) (hc:∀ c∈a.cls,c.size<=1000) (hm:m.size<=1000) (hne:∀ c∈a.cls,aW c=false) : Calls Tryz.prog 144 #[.agg #[.string a.id,vc,vp],.string m] w (aU w (eT a (if aW m=true then [] else [m]))):=by
 obtain ⟨iP,hiP,qg,qh,qj⟩:=info_parts kN;obtain ⟨A,cap,hv,hs⟩:=Rd.ay hR.cls;obtain ⟨n,hn⟩:∃ n,n=a.cls.length:=⟨_,rfl⟩;obtain rfl:vc=.slice A n cap:=by rw [hn];simpa using hv
 have hcap:n<=cap:=by have:=hs.le;rw [jDx] at this;omega
 have hmx:=hs.max;unfold maxLen at hmx;obtain ⟨ap,np,cp,rfl⟩:=Rd.au hR.aD;have hn1:n<=100:=by omega
 have HB:=hid (GH m a.cls 1000 hc);obtain ⟨mo,hmo⟩:∃ mo,mo=(if aW m=true then [] else [m]):=⟨_,rfl⟩;have hE:=RO a m hne;rw [<- hmo] at hE ⊢;have HE:=hid hE;clear hE hmo;have HSA:=hid hs;have HC:=hid hc;have HN:=hid hn;obtain ⟨S,hS⟩:∃ S,S=w.heap.size:=⟨_,rfl⟩;obtain ⟨W1,hW1⟩:∃ W,W=w.alloc (.cells #[.string a.id,.slice A n cap,.slice ap np cp] 45):=⟨_,rfl⟩;have k1:CB 45 S [.string a.id,.slice A n cap,.slice ap np cp] W1:=by rw [hW1,hS];exact CB.new _ _ w
 have b1:Below w.heap.size w W1:=by rw [hW1];exact (jD7 _ _).alloc (jD8 _) _
 have e0:=k1.cell 0 _ rfl;have e1:=k1.cell 1 _ rfl;have R0:Hid (ZU m a.cls (.string m) (.int .i64 0)):=⟨0,Nat.zero_le _,rfl,by rw [List.take_zero];rfl⟩;have HS:=hid hS;have HW1:=hid hW1;have B1:=hid b1;clear hR hl hc hne hv hs hn hS hW1 k1 b1;go_enter Tryz.func144,Tryz.ntmps144;go_upto_region 2 with (fail)
 rw [<- HS.out,<- HW1.out];go_wp2
 go_loop [5,6] (fun v i=>ZU m a.cls v i) (fun _ i=>n-(intOf i).toNat)
 case atStart=>exact R0.out
 case round=>
  clear R0;obtain ⟨k,hk,rfl,rfl⟩:=hrel;obtain ⟨c,hcE⟩:∃ c,c=lF m (a.cls.take k):=⟨_,rfl⟩;have hcs:c.size<=200000:=by have h:=HB.out k;rw [<- hcE] at h;have:k*1001<=100*1001:=Nat.mul_le_mul_right _ (by have:=HN.out;omega);omega
  rw [<- hcE];have HCE:=hid hcE;clear hcE;by_cases hlt:k<n
  ·have hlt2:k<a.cls.length:=by have:=HN.out;omega
   obtain ⟨x,hx⟩:∃ x,a.cls[k]?=some x:=⟨_,jD6 hlt2⟩;obtain ⟨b,off,rfl,-,hbl,hcx⟩:=jf HSA.out hx;have e2:W1.cell? ⟨b,off+k,none⟩=some (.string x):=(B1.out.cell (p:=⟨b,off+k,none⟩) hbl).trans hcx;have hxs:=HC.out x (jE4 hx);have HX:=hid (Cx m a.cls k x hx);rw [<- HCE.out] at HX;have qe:=Qj c;clear hcx hx;by_cases hem:aW c=true
   ·have q1:c.toList.isEmpty=true:=by rw [qe];exact hem
    have q3:c.size+x.size<=9223372036854775807:=by omega
    have HX2:Hid (lF m (a.cls.take (k+1))=c++x):=by show _=_;rw [HX.out,if_pos hem]
    clear hem qe;go_wp2
    go_round
    case rel=>exact ⟨k+1,by have:=HN.out;omega,by go_num,by rw [HX2.out]⟩
    case measure=>simp [intOf];omega
   ·have q1:c.toList.isEmpty=false:=by rw [qe];simpa using hem
    have q3:c.size+(⟨#[32]⟩:ByteArray).size<=9223372036854775807:=by have:(⟨#[32]⟩:ByteArray).size=1:=rfl;omega
    have q4:(c++(⟨#[32]⟩:ByteArray)).size+x.size<=9223372036854775807:=by rw [ByteArray.size_append];have:(⟨#[32]⟩:ByteArray).size=1:=rfl;omega
    have HX2:Hid (lF m (a.cls.take (k+1))=c++⟨#[32]⟩++x):=by show _=_;rw [HX.out,if_neg hem];rfl
    have q5:c.size+1<=9223372036854775807:=by omega
    have q6:c.size+1+x.size<=9223372036854775807:=by omega
    have a1:∀ w:jG9,(Op.stringOp .add c (⟨#[32]⟩:ByteArray)).run Tryz.prog w=.ok (.string (c++⟨#[32]⟩)) w:=fun w=>run_string_add_sum w _ _ q3
    have a2:∀ w:jG9,(Op.stringOp .add (c++(⟨#[32]⟩:ByteArray)) x).run Tryz.prog w=.ok (.string (c++⟨#[32]⟩++x)) w:=fun w=>run_string_add_sum w _ _ q4
    clear hem qe q3 q4 q5 q6;go_wp2
    go_round
    case rel=>exact ⟨k+1,by have:=HN.out;omega,by go_num,by rw [HX2.out]⟩
    case measure=>simp [intOf];omega
  ·have hkl:k=a.cls.length:=by have:=HN.out;omega
   have jr4:c=lF m a.cls:=by rw [HCE.out,hkl,List.take_length]
   have jx7:=hid jr4;have S1:Hid (Calls Tryz.prog 49 #[.string ⟨#[105,100]⟩,.string a.id] W1 (aU W1 (bU jT a.id))):=Qm jT a.id W1;have jAx:¬ (k<n):=hlt;clear hkl jr4;go_wp2_with fail
   (with_reducible refine S1.out.mono ?_)
   rintro e w2 ⟨aZ,v2,rfl,hrow2⟩;obtain ⟨m2,hm2⟩:∃ m,m=(List.map Pr.d (bU jT a.id)).length:=⟨_,rfl⟩;obtain ⟨a2,c2,rfl,-,-⟩:=hrow2.cap hm2.symm;have jx2:m2<=1:=by rw [hm2];unfold bU;split<;>simp
   have HM2:=hid hm2.symm;have S2:Hid (Calls Tryz.prog 49 #[.string ⟨#[99,108,97,115,115]⟩,.string c] w2 (aU w2 (bU dx c))):=Qm dx c w2;have U2:=hid hrow2;clear hrow2 hm2 S1 e0 e1;go_wp2_with fail
   (with_reducible refine S2.out.mono ?_)
   rintro e w3 ⟨dD,v3,rfl,hrow3⟩;obtain ⟨m3,Ke⟩:∃ m,m=(List.map Pr.d (bU dx c)).length:=⟨_,rfl⟩;obtain ⟨a3,c3,rfl,-,-⟩:=hrow3.cap Ke.symm;have jr1:m3<=1:=by rw [Ke];unfold bU;split<;>simp
   have VX:=hid Ke.symm;have b3:=hrow3.aM;have U3:=hid (U2.out.below b3);have X3:=hid (show Rd (fun b=>False\/w2.heap.size<=b) w3 (.sl 2 (List.map Pr.d (bU dx c))) [.slice a3 m3 c3] from hrow3.bZ.weaken (fun b hb=>.inr hb));have O1:=hid (fun (rs:List (List jGk)) (ok':Nat->Prop) h=>lG (bU dx c) rs ok' w3 h);clear hrow3 Ke b3 S2;go_wp2_with (at_builtin;refine iK (n:=m2) (m:=m3) rfl _ _ 24 rfl iP _ 32 Tryz.underlying24 hiP qg qh qj rfl (by decide) U3.out (fun _=>False.elim) (.slice a3 m3 c3) X3.out O1.out HM2.out VX.out (by omega) (by decide) rfl rfl ?_)
   intro a5 c5 nY w5 aX hg5;have HF:Hid (aU w (eT a mo) (.returned (.slice a5 (m2+m3) c5)) w5):=by have h:=aX.lV (wb:=w) (B1.out.size) (B1.out.trans (aX.aM.mono B1.out.size));rw [<- jE8,jx7.out,HE.out] at h;exact ⟨nY,_,rfl,h⟩
   clear aX hg5 U3 X3 O1;go_wp2;go_ret;exact HF.out
open Go.RowKit
theorem l6 (l:List Nd) (k:Nat) (x:Nd) (h:l[k]?=some x):Bu (l.take (k+1))=jG (Bu (l.take k)) x:=by unfold Bu;rw [List.take_add_one,h,List.foldl_append];rfl
theorem OB (out:List Nd) (x:Nd):(jG out x).length<=out.length+1:=by
 unfold jG;split
 ·split
  ·split
   ·rw [jDq,List.length_dropLast,List.length_singleton];omega
   ·simp
  ·simp
 ·simp
theorem yX (l:List Nd):∀ k,(Bu (l.take k)).length<=k
 | 0=>by simp [Bu]
 | k+1=>by
  have ih:=yX l k;by_cases hk:k<l.length
  ·rw [l6 l k l[k] (jD6 hk)];have:=OB (Bu (l.take k)) l[k];omega
  ·rw [jEj (by omega)];rw [jEj (by omega)] at ih;omega
theorem RP (out:List Nd) (x:Nd) (n:Nat) (h:∀ y∈out,y.tx.size<=n) (hx:x.tx.size<=300):∀ y∈jG out x,y.tx.size<=n+300:=by
 have h0:∀ y∈out++[x],y.tx.size<=n+300:=by
  intro y hy;rcases List.mem_append.1 hy with hy | hy
  ·have:=h y hy;omega
  ·simp at hy;subst hy;omega
 unfold jG;split
 ·cases hg:out.getLast? with
  | none=>exact h0
  | some z=>
   simp only;split
   ·intro y hy;rcases List.mem_append.1 hy with hy | hy
    ·have:=h y (List.dropLast_subset _ hy);omega
    ·simp at hy;subst hy;have:=h z (List.mem_of_getLast? hg);show (z.tx++x.tx).size<=_;rw [ByteArray.size_append];omega
   ·exact h0
 ·exact h0
theorem Cy (l:List Nd) (hl:∀ x∈l,x.tx.size<=300):∀ k,∀ y∈Bu (l.take k),y.tx.size<=300*k
 | 0=>by simp [Bu]
 | k+1=>by
  have ih:=Cy l hl k;by_cases hk:k<l.length
  ·rw [l6 l k l[k] (jD6 hk)];intro y hy;have:=RP _ l[k] (300*k) ih (hl _ (List.getElem_mem hk)) y hy;omega
  ·rw [jEj (by omega)];rw [jEj (by omega)] at ih;intro y hy;have:=ih y hy;omega
theorem aR.init {P:Nat->Prop} {w:jG9}:∀ (ds:List D) (rows:List (List jGk)) (d0:D) (r0:List jGk),aR P w (ds++[d0]) (rows++[r0])->rows.length=ds.length->aR P w ds rows/\Rd P w d0 r0
 | [],rows,d0,r0,hr,hl=>by
  rw [List.eq_nil_of_length_eq_zero hl] at hr ⊢;obtain ⟨r,rs,e,h1,h2⟩:=hr.aI;have e1:r=r0:=by simp at e;exact e.1.symm
  subst e1;exact ⟨aR.none,h1⟩
 | x::ds,[],d0,r0,hr,hl=>by simp at hl
 | x::ds,r::rows,d0,r0,hr,hl=>by
  obtain ⟨r',rs,e,h1,h2⟩:=hr.aI;have e':r'=r/\rs=rows++[r0]:=by simp at e;exact ⟨e.1.symm,e.2.symm⟩
  obtain ⟨rfl,rfl⟩:=e';obtain ⟨h3,h4⟩:=aR.init ds rows d0 r0 h2 (by simpa using hl);exact ⟨aR.cons h1 h3,h4⟩
section
variable {T:TypeId} {U:Nat} {ok:Nat->Prop} {w0 w:jG9} {ds:List D} {rows:List (List jGk)} {v:jGk}
theorem aF.uJ {d:D} (h:aF T 4 ok U w0 (ds++[d]) rows v w):∃ rows' a0 a1 a2 a3,rows=rows'++[[a0,a1,a2,a3]]/\Rd (fun b=>(ok b\/w0.heap.size<=b)/\v.ownBlock≠some b/\b<U) w d [a0,a1,a2,a3]:=by
 have hl:=h.red.len;rw [jDq,List.length_singleton] at hl;have hne:rows≠[]:=fun e=>by rw [e] at hl;simp at hl
 obtain ⟨rows',r,rfl⟩:∃ rows' r,rows=rows'++[r]:=⟨_,_,(List.dropLast_concat_getLast hne).symm⟩;have hr:=h.len r (by simp)
 match r,hr with
 | [a0,a1,a2,a3],_=>exact ⟨rows',a0,a1,a2,a3,rfl,(aR.init ds rows' d _ h.red (by simp at hl;exact hl)).2⟩
theorem aF.set1 {g n c j:Nat} {d0 d1:D} {r0:List jGk} {u:jGk} (h:aF T 4 ok U w0 (ds++[d0]) (rows++[r0]) (.slice (some ⟨g,0,none⟩) (n+1) c) w) (hn:ds.length=n) (hj:j<4) (hd:Rd (fun b=>(ok b\/w0.heap.size<=b)/\g≠b/\b<U) w d1 (r0.set j u)):aF T 4 ok U w0 (ds++[d1]) (rows++[r0.set j u]) (.slice (some ⟨g,0,none⟩) (n+1) c) (w.setCell ⟨g,n*4+j,none⟩ u):=by
 have hl:rows.length=n:=by have:=h.red.len;simp at this;omega
 have hfl:rows.flatten.length=n*4:=by rw [kZ 4 rows (fun r hr=>h.len r (by simp [hr])),hl]
 have hown:=h.own;have e1:∀ r:List jGk,(rows++[r]).flatten=rows.flatten++r:=fun r=>by simp
 rw [e1,jDq,List.length_singleton,hn] at hown;have o4:=(hown.stored (n*4+j) u).1;rw [List.set_append_right _ _ (by omega),hfl,Nat.add_sub_cancel_left] at o4;have hb:∀ b,b≠g->(w.setCell ⟨g,n*4+j,none⟩ u).heap[b]?=w.heap[b]?:=fun b hb=>jE1 w ⟨g,n*4+j,none⟩ u b hb
 have hg0:w0.heap.size<=g:=(h.own.lt g rfl).1;refine ⟨?_,?_,?_,?_,h.oU,h.Gg,by simpa [jF1] using h.JJ⟩
 ·rw [e1,jDq,List.length_singleton,hn];exact o4
 ·have hA:=(aR.init ds rows d0 r0 h.red (by omega)).1;exact aR.app (aR.keep (fun b hb' _=>⟨hb',hb b (fun e=>by subst e;exact hb'.2.1 rfl)⟩) _ _ hA) (aR.one (Rd.keep (fun b hb' _=>⟨⟨hb'.1,fun e=>hb'.2.1 (by simpa [Value.ownBlock] using e),hb'.2.2⟩,hb b (fun e=>hb'.2.1 e.symm)⟩) _ _ hd))
 ·intro r hr;rcases List.mem_append.1 hr with hr | hr
  ·exact h.len r (by simp [hr])
  ·simp at hr;subst hr;rw [List.length_set];exact h.len r0 (by simp)
 ·exact h.aM.setCell (p:=⟨g,n*4+j,none⟩) hg0 u
end
def vO (m0:Nat) (w:jG9) (L:List Nd) (v vi:jGk) (wr:jG9):Prop:=
 ∃ (k:Nat) (rows:List (List jGk)),k<=L.length/\vi=.int .i64 k/\aF 35 4 (fun b=>m0<=b/\b<w.heap.size) wr.heap.size w ((Bu (L.take k)).map Nd.d) rows v wr
def RQ (m0:Nat) (w:jG9) (L:List Nd) (e:Ending) (w':jG9):Prop:=
 ∃ rows v,e=.returned v/\aF 35 4 (fun b=>m0<=b/\b<w.heap.size) w'.heap.size w ((Bu L).map Nd.d) rows v w'
theorem ZW{P Q:Prop}(q:Q)(h:Nonempty Q->P:=by
 intro qQ;refine Br 0 rfl (by kernel_rfl) hH (by rfl) (by intro wv hSw;(try dsimp only at hSw);go_simp;try with_reducible rfl) ?_;refine Br 1 rfl (by kernel_rfl) hH (by rfl) (by intro wv hSw;(try dsimp only at hSw);go_simp;try with_reducible rfl) ?_;refine Br 2 rfl (by kernel_rfl) hH (by rfl) (by intro wv hSw;(try dsimp only at hSw);go_simp;try with_reducible rfl) ?_;refine Br 3 rfl (by kernel_rfl) hH (by rfl) (by intro wv hSw;(try dsimp only at hSw);go_simp;try with_reducible rfl) ?_;refine Br 4 rfl (by kernel_rfl) hH (by rfl) (by intro wv hSw;(try dsimp only at hSw);go_simp;try with_reducible rfl) ?_;refine Br 5 rfl (by kernel_rfl) hH (by rfl) (by intro wv hSw;(try dsimp only at hSw);go_simp;try with_reducible rfl) ?_;exact qQ.elim fun x=>x):P:=h ⟨q⟩
theorem GI{P:Prop}(h:P:=by
 rw [<- HJ.out] at aX;exact ⟨k+1,_,by omega,rfl,aX⟩):P:=h
theorem GJ (m0:Nat) (L:List Nd) (v:jGk) (w:jG9) (hrd:Rd (m0<=·) w (gD L) [v]) (hL:L.length<=1000000) (hx3:∀ x∈L,x.tx.size<=300) : Calls Tryz.prog 184 #[v] w (RQ m0 w L):=by
 obtain ⟨iN,qB,fC,fD,fE⟩:=info_parts gY;obtain ⟨a,cap,hv,hs⟩:=Rd.ay hrd;obtain rfl:v=.slice a L.length cap:=by simpa using hv
 have hcap:L.length<=cap:=by simpa using hs.le
 have hmx:=hs.max;unfold maxLen at hmx;have HS:=hid hs;have HX3:=hid hx3;have R0:Hid (vO m0 w L (.slice none 0 0) (.int .i64 0) w):=⟨0,[],Nat.zero_le _,rfl,aF.nil _ _ _ _⟩;clear hs hv hrd hx3;go_enter Tryz.func184,Tryz.ntmps184;go_wp2
 go_loopw [3,4] (fun v vi wr=>vO m0 w L v vi wr) (fun _ i _=>L.length-(intOf i).toNat)
 case atStart=>exact R0.out
 case round=>
  clear R0;obtain ⟨k,rows,hk,rfl,hrow⟩:=hrel;obtain ⟨Out,hOut⟩:∃ Out,Out=Bu (L.take k):=⟨_,rfl⟩;have hol:Out.length<=k:=by rw [hOut];exact yX L k
  have hot:∀ y∈Out,y.tx.size<=300*k:=by rw [hOut];exact Cy L HX3.out k
  rw [<- hOut] at hrow;have hbel:=hrow.aM;by_cases hlt:k<L.length
  ·obtain ⟨x,hx⟩:∃ x,L[k]?=some x:=⟨_,jD6 hlt⟩;have hst:=l6 L k x hx;rw [<- hOut] at hst;have hxt:=HX3.out x (jE4 hx);obtain ⟨nm,tx,XA,XK⟩:=x;have hxt:tx.size<=300:=hxt;obtain ⟨b,off,va,vk,rfl,hok,hbl,c0,c1,c2,c3,hR⟩:=nZ HS.out hx;obtain ⟨aA,nA,cA,rfl⟩:=Rd.au hR.at_
   obtain ⟨aK,nK,cK,rfl⟩:=Rd.au hR.ks;have e0:wr.cell? ⟨b,off+k*4,none⟩=some (.string nm):=(hbel.cell (p:=⟨b,_,none⟩) hbl).trans c0;have e1:wr.cell? ⟨b,off+k*4+1,none⟩=some (.string tx):=(hbel.cell (p:=⟨b,_,none⟩) hbl).trans c1;have e2:wr.cell? ⟨b,off+k*4+2,none⟩=some (.slice aA nA cA):=(hbel.cell (p:=⟨b,_,none⟩) hbl).trans c2;have e3:wr.cell? ⟨b,off+k*4+3,none⟩=some (.slice aK nK cK):=(hbel.cell (p:=⟨b,_,none⟩) hbl).trans c3;have hwz:=hbel.size;have HXD:Hid (Rd (fun b'=>(m0<=b'/\b'<w.heap.size)\/wr.heap.size<=b') wr (Nd.mk nm tx XA XK).d [.string nm,.string tx,.slice aA nA cA,.slice aK nK cK]):=
    Rd.keep (fun b' (h1:m0<=b') h2=>⟨.inl ⟨h1,h2⟩,hbel.block b' h2⟩) _ _ (Nd.dJ nm tx hR)
   obtain ⟨n,hn⟩:∃ n,n=(Out.map Nd.d).length:=⟨_,rfl⟩;obtain ⟨av,cv,rfl,hcv,jx8⟩:=hrow.cap hn.symm;unfold maxLen at jx8;have hnk:n<=k:=by rw [hn,jDx];exact hol
   have HN:=hid hn.symm;have HOT:=hid hot;have HST:=hid hst;have bg:=hid hrow;have qe:=Qj nm;clear hst hot hOut hn hR c0 c1 c2 c3 hok hx hol hrow hbel;by_cases hA:aW nm=false\/n=0\/∃ ql y,Out=ql++[y]/\aW y.nm=false
   ·have HJ:Hid ((Bu (L.take (k+1))).map Nd.d=Out.map Nd.d++[(Nd.mk nm tx XA XK).d]):=by
     show _=_;rw [HST.out];have:jG Out (.mk nm tx XA XK)=Out++[.mk nm tx XA XK]:=by
      unfold jG;rcases hA with h | h | ⟨ql,y,rfl,h⟩
      ·rw [if_neg (show ¬ aW (Nd.mk nm tx XA XK).nm=true by show ¬ aW nm=true;rw [h];simp)]
      ·have:Out=[]:=by
        have h9:=HN.out;rw [h,jDx] at h9;exact List.eq_nil_of_length_eq_zero h9
       subst this;split<;>rfl
      ·split
       ·rw [List.getLast?_append];simp only [List.getLast?_singleton,Option.some_or];rw [if_neg (by rw [h];simp)]
       ·rfl
     rw [this,jE8];rfl
    have PUT:Hid (n<=10000000):=by show _<=_;omega
    rcases hA with h | h | ⟨ql,y,hOy,h⟩
    ·have q1:nm.toList.isEmpty=false:=by rw [qe];exact h
     clear h qe HST HOT;go_wp2_with (at_builtin;refine Oh (n:=n) rfl _ _ 28 rfl iN _ 80 Tryz.underlying28 qB fC fD fE rfl (by decide) bg.out (fun b' hb'=>hb'.2) (Nd.mk nm tx XA XK).d [.string nm,.string tx,.slice aA nA cA,.slice aK nK cK] HXD.out rfl Fz HN.out PUT.out (by decide) rfl rfl ?_)
     intro a' c' w5 aX hg5;have HF:Hid (vO m0 w L (.slice a' (n+1) c') (.int .i64 ((k+1:Nat):Int)) w5):=by rw [<- HJ.out] at aX;exact ⟨k+1,_,by omega,rfl,aX⟩
     clear aX hg5;go_wp2;go_roundw;case rel=>exact HF.out
     case measure=>simp [intOf];omega
    ·subst h;have jAz:=bg;cases hne:aW nm
     ·have q1:nm.toList.isEmpty=false:=by rw [qe];exact hne
      clear hne qe HST HOT;go_wp2_with (at_builtin;refine Oh (n:=0) rfl _ _ 28 rfl iN _ 80 Tryz.underlying28 qB fC fD fE rfl (by decide) bg.out (fun b' hb'=>hb'.2) (Nd.mk nm tx XA XK).d [.string nm,.string tx,.slice aA nA cA,.slice aK nK cK] HXD.out rfl Fz HN.out PUT.out (by decide) rfl rfl ?_)
      intro a' c' w5 aX hg5;have HF:Hid (vO m0 w L (.slice a' (0+1) c') (.int .i64 ((k+1:Nat):Int)) w5):=by rw [<- HJ.out] at aX;exact ⟨k+1,_,by omega,rfl,aX⟩
      clear aX hg5;go_wp2;go_roundw;case rel=>exact HF.out
      case measure=>simp [intOf];omega
     ·have q1:nm.toList.isEmpty=true:=by rw [qe];exact hne
      have q1':nm.toList=[]:=by rw [List.isEmpty_iff] at q1;exact q1
      clear hne qe HST HOT;go_wp2_with (at_builtin;refine Oh (n:=0) rfl _ _ 28 rfl iN _ 80 Tryz.underlying28 qB fC fD fE rfl (by decide) bg.out (fun b' hb'=>hb'.2) (Nd.mk nm tx XA XK).d [.string nm,.string tx,.slice aA nA cA,.slice aK nK cK] HXD.out rfl Fz HN.out PUT.out (by decide) rfl rfl ?_)
      intro a' c' w5 aX hg5;have HF:Hid (vO m0 w L (.slice a' (0+1) c') (.int .i64 ((k+1:Nat):Int)) w5):=by rw [<- HJ.out] at aX;exact ⟨k+1,_,by omega,rfl,aX⟩
      clear aX hg5;go_wp2;go_roundw;case rel=>exact HF.out
      case measure=>simp [intOf];omega
    ·cases hne:aW nm
     ·have q1:nm.toList.isEmpty=false:=by rw [qe];exact hne
      clear hne qe HST HOT h hOy;go_wp2_with (at_builtin;refine Oh (n:=n) rfl _ _ 28 rfl iN _ 80 Tryz.underlying28 qB fC fD fE rfl (by decide) bg.out (fun b' hb'=>hb'.2) (Nd.mk nm tx XA XK).d [.string nm,.string tx,.slice aA nA cA,.slice aK nK cK] HXD.out rfl Fz HN.out PUT.out (by decide) rfl rfl ?_)
      intro a' c' w5 aX hg5;have HF:Hid (vO m0 w L (.slice a' (n+1) c') (.int .i64 ((k+1:Nat):Int)) w5):=by rw [<- HJ.out] at aX;exact ⟨k+1,_,by omega,rfl,aX⟩
      clear aX hg5;go_wp2;go_roundw;case rel=>exact HF.out
      case measure=>simp [intOf];omega
     ·have q1:nm.toList.isEmpty=true:=by rw [qe];exact hne
      have q1':nm.toList=[]:=by rw [List.isEmpty_iff] at q1;exact q1
      have hrw:=bg.out;rw [hOy,jE8] at hrw;obtain ⟨yn,yt,yA,yK⟩:=y;have h:aW yn=false:=h;obtain ⟨rows',a0,a1,a2,a3,rfl,hyd⟩:=aF.uJ (ds:=ql.map Nd.d) (d:=(Nd.mk yn yt yA yK).d) hrw;obtain ⟨va',vk',he,hyR⟩:=Nd.open_ hyd;obtain ⟨rfl,rfl,rfl,rfl⟩:a0=.string yn/\a1=.string yt/\a2=va'/\a3=vk':=by simp at he;exact he
      have hn9:=HN.out;rw [hOy] at hn9;obtain ⟨n1,rfl⟩:∃ n1,n=n1+1:=⟨n-1,by simp at hn9;omega⟩;have hn1:(ql.map Nd.d).length=n1:=by simp at hn9 ⊢;omega
      obtain ⟨g,cap',hgv,-⟩:=jE hrw.own (by simp);obtain ⟨rfl,rfl⟩:av=some ⟨g,0,none⟩/\cv=cap':=by injection hgv with h1 h2 h3;exact ⟨h1,h3⟩
      obtain ⟨y0,y1,y2,y3,yf⟩:=aF.Cw (ds:=ql.map Nd.d) hrw hn1;have q2:yn.toList.isEmpty=false:=by rw [Qj];exact h
      have t0:(0:Int)<(n1:Int)+1:=by omega
      have t1:(0:Int)<=(n1:Int):=by omega
      have t2:(n1:Int)<(n1:Int)+1:=by omega
      have t3:n1<n1+1:=by omega
      have t5:(n1:Int)+1<=9223372036854775807:=by omega
      clear hne qe HST HOT h hOy hrw he hyR hyd hgv hn9 hn1;go_wp2_with (at_builtin;refine Oh (n:=n1+1) rfl _ _ 28 rfl iN _ 80 Tryz.underlying28 qB fC fD fE rfl (by decide) bg.out (fun b' hb'=>hb'.2) (Nd.mk nm tx XA XK).d [.string nm,.string tx,.slice aA nA cA,.slice aK nK cK] HXD.out rfl Fz HN.out PUT.out (by decide) rfl rfl ?_)
      intro a' c' w5 aX hg5;have HF:Hid (vO m0 w L (.slice a' (n1+1+1) c') (.int .i64 ((k+1:Nat):Int)) w5):=by rw [<- HJ.out] at aX;exact ⟨k+1,_,by omega,rfl,aX⟩
      clear aX hg5;go_wp2;go_roundw;case rel=>exact HF.out
      case measure=>simp [intOf];omega
   ·have hne:aW nm=true:=by cases h:aW nm;exact absurd (.inl h) hA;rfl
    have hn0:n≠0:=fun h=>hA (.inr (.inl h))
    have jr5:Out≠[]:=fun h=>by have h9:=HN.out;rw [h] at h9;simp at h9;omega
    obtain ⟨ql,y,rfl⟩:∃ ql y,Out=ql++[y]:=⟨_,_,(List.dropLast_concat_getLast jr5).symm⟩;have hye:aW y.nm=true:=by cases h:aW y.nm;exact absurd (.inr (.inr ⟨ql,y,rfl,h⟩)) hA;rfl
    have hyt:=HOT.out y (by simp);have hj:jG (ql++[y]) (.mk nm tx XA XK)=ql++[.mk y.nm (y.tx++tx) y.at_ y.ks]:=by unfold jG;rw [if_pos (show aW (Nd.mk nm tx XA XK).nm=true from hne),List.getLast?_append];simp only [List.getLast?_singleton,Option.some_or];rw [if_pos hye,List.dropLast_concat];rfl
    obtain ⟨yn,yt,yA,yK⟩:=y;dsimp only [Nd.nm,Nd.tx,Nd.at_,Nd.ks] at hye hyt hj;have hrw:=bg.out;rw [jE8] at hrw;obtain ⟨rows',a0,a1,a2,a3,rfl,hyd⟩:=aF.uJ (ds:=ql.map Nd.d) (d:=(Nd.mk yn yt yA yK).d) hrw;obtain ⟨va',vk',he,hyR⟩:=Nd.open_ hyd;obtain ⟨rfl,rfl,rfl,rfl⟩:a0=.string yn/\a1=.string yt/\a2=va'/\a3=vk':=by simp at he;exact he
    obtain ⟨n1,rfl⟩:∃ n1,n=n1+1:=⟨n-1,by omega⟩;have hn1:(ql.map Nd.d).length=n1:=by have h9:=HN.out;simp at h9 ⊢;omega
    obtain ⟨g,cap',hgv,-⟩:=jE hrw.own (by simp);obtain ⟨rfl,rfl⟩:av=some ⟨g,0,none⟩/\cv=cap':=by injection hgv with h1 h2 h3;exact ⟨h1,h3⟩
    obtain ⟨y0,y1,y2,y3,yf⟩:=aF.Cw (ds:=ql.map Nd.d) hrw hn1;have hgl:=hrw.own.lt g rfl;have HJ:Hid ((Bu (L.take (k+1))).map Nd.d=ql.map Nd.d++[(Nd.mk yn (yt++tx) yA yK).d]):=by show _=_;rw [HST.out,hj,jE8];rfl
    have jr6:=hid (hrw.set1 (j:=1) (u:=.string (yt++tx)) hn1 (by decide) (d1:=(Nd.mk yn (yt++tx) yA yK).d) (by
     show Rd _ _ _ [.string yn,.string (yt++tx),_,_];refine Nd.dJ yn (yt++tx) (hyR.keep (fun b' hb' _=>⟨⟨hb'.1,fun e=>hb'.2.1 (by rw [e];rfl),hb'.2.2⟩,rfl⟩))))
    have q1:nm.toList.isEmpty=true:=by rw [qe];exact hne
    have q2:yn.toList.isEmpty=true:=by rw [Qj];exact hye
    have q1':nm.toList=[]:=by rw [List.isEmpty_iff] at q1;exact q1
    have q2':yn.toList=[]:=by rw [List.isEmpty_iff] at q2;exact q2
    have hadd:∀ w:jG9,(Op.stringOp .add yt tx).run Tryz.prog w=.ok (.string (yt++tx)) w:=fun w=>run_string_add_sum w _ _ (by omega)
    have t0:(0:Int)<(n1:Int)+1:=by omega
    have t1:(0:Int)<=(n1:Int):=by omega
    have t2:(n1:Int)<(n1:Int)+1:=by omega
    have t3:n1<n1+1:=by omega
    have t4:(0:Int)<((n1+1:Nat):Int):=by omega
    have t5:(n1:Int)+1<=9223372036854775807:=by omega
    have t7:(k:Int)<(L.length:Int):=by omega
    have t8:(0:Int)<=(k:Int):=by omega
    clear hne hye hyt hj he hyR hyd hgv jr5 hA hn0 bg HOT HST qe;go_upto_region 7 with (fail)
    have t9:IntKind.i64.wrap ((n1:Int)+1-1)=(n1:Int):=by
     have e:(n1:Int)+1-1=(n1:Int):=by omega
     rw [e];exact IntWalk.i64_in _ ⟨by omega,by omega⟩
    have t10:IntKind.i64.wrap (n1:Int)=(n1:Int):=IntWalk.i64_in _ ⟨by omega,by omega⟩;have S0:wr.drew.cell? ⟨g,n1*4+1,none⟩=some (.string yt)/\wr.drew.cell? ⟨b,off+k*4+1,none⟩=some (.string tx):=⟨y1,e1⟩;refine kg 17 (fun w'=>w'.cell? ⟨g,n1*4+1,none⟩=some (.string yt)/\w'.cell? ⟨b,off+k*4+1,none⟩=some (.string tx)) (by kernel_rfl) S0 ?_;intro hH;refine Br 0 rfl (by kernel_rfl) hH (by rfl) (by intro wv hSw;(try dsimp only at hSw);go_simp;try with_reducible rfl) ?_;refine Br 1 rfl (by kernel_rfl) hH (by rfl) (by intro wv hSw;(try dsimp only at hSw);go_simp;try with_reducible rfl) ?_;refine Br 2 rfl (by kernel_rfl) hH (by rfl) (by intro wv hSw;(try dsimp only at hSw);go_simp;try with_reducible rfl) ?_;refine Br 3 rfl (by kernel_rfl) hH (by rfl) (by intro wv hSw;(try dsimp only at hSw);go_simp;try with_reducible rfl) ?_;refine Br 4 rfl (by kernel_rfl) hH (by rfl) (by intro wv hSw;(try dsimp only at hSw);go_simp;try with_reducible rfl) ?_;refine Br 5 rfl (by kernel_rfl) hH (by rfl) (by intro wv hSw;(try dsimp only at hSw);go_simp;try with_reducible rfl) ?_;refine Br 6 rfl (by kernel_rfl) hH (by rfl) (by intro wv hSw;(try dsimp only at hSw);go_simp;try with_reducible rfl) ?_;refine Br 7 rfl (by kernel_rfl) hH (by rfl) (by intro wv hSw;(try dsimp only at hSw);go_simp;try with_reducible rfl) ?_;refine Br 8 rfl (by kernel_rfl) hH (by rfl) (by intro wv hSw;(try dsimp only at hSw);go_simp;try with_reducible rfl) ?_;refine Br 9 rfl (by kernel_rfl) hH (by rfl) (by intro wv hSw;(try dsimp only at hSw);go_simp;try with_reducible rfl) ?_;refine Br 10 rfl (by kernel_rfl) hH (by rfl) (by intro wv hSw;(try dsimp only at hSw);go_simp;try with_reducible rfl) ?_;refine Br 11 rfl (by kernel_rfl) hH (by rfl) (by intro wv hSw;(try dsimp only at hSw);go_simp;try with_reducible rfl) ?_;refine Br 12 rfl (by kernel_rfl) hH (by rfl) (by intro wv hSw;(try dsimp only at hSw);go_simp;try with_reducible rfl) ?_;refine Br 13 rfl (by kernel_rfl) hH (by rfl) (by intro wv hSw;(try dsimp only at hSw);go_simp;try with_reducible rfl) ?_;refine Br 14 rfl (by kernel_rfl) hH (by rfl) (by intro wv hSw;(try dsimp only at hSw);go_simp;try with_reducible rfl) ?_;refine Br 15 rfl (by kernel_rfl) hH (by rfl) (by intro wv hSw;(try dsimp only at hSw);go_simp;try with_reducible rfl) ?_;refine Br 16 rfl (by kernel_rfl) hH (by rfl) (by intro wv hSw;(try dsimp only at hSw);go_simp;try with_reducible rfl) ?_;refine Jf (i:=17) rfl (by kernel_rfl) (fun KQ hK=>?_);go_simp;refine hK.out _ _ (fun h=>absurd rfl h) (fun _=>?_);clear hK KQ;refine ko (by kernel_rfl) ?_ _;obtain ⟨w5,Kg⟩:∃ w5,w5=wr.drew.setCell ⟨g,n1*4+1,none⟩ (.string (yt++tx)):=⟨_,rfl⟩;have HF:Hid (vO m0 w L (.slice (some ⟨g,0,none⟩) (n1+1) cv) (.int .i64 ((k+1:Nat):Int)) w5):=by
     have h1:=jr6.out.drew.top;have e5:(wr.setCell ⟨g,n1*4+1,none⟩ (.string (yt++tx))).drew=w5:=by rw [Kg];rfl
     rw [e5,<- HJ.out] at h1;exact ⟨k+1,_,by omega,rfl,h1⟩
    have jr7:(wr.setCell ⟨g,n1*4+1,none⟩ (.string (yt++tx))).drew=w5:=by rw [Kg];rfl
    (first | rw [<- Kg] | rw [jr7])
    clear Kg jr7 jr6 y0 y1 y2 y3 yf q1 q2 q1' q2' S0 hH t9 t10;go_wp2;go_roundw;case rel=>exact HF.out
    case measure=>simp [intOf];omega
  ·have hkl:k=L.length:=by omega
   obtain ⟨n,hn⟩:∃ n,n=(Out.map Nd.d).length:=⟨_,rfl⟩;obtain ⟨av,cv,rfl,-,-⟩:=hrow.cap hn.symm;have HF:Hid (RQ m0 w L (.returned (.slice av n cv)) wr):=⟨rows,_,rfl,by rw [hOut,hkl,List.take_length] at hrow;exact hrow⟩;clear hrow hot hol hn;go_wp2;go_ret;exact HF.out
end Go.Proofs.YtkfnkeflalcphaaGreatDoor

