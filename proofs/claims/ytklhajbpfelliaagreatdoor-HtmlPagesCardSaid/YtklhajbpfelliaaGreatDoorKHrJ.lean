/- The function flush of html.line: the text so far becomes a node of the line; and what the loop of html.line keeps. Contract of html.line: the nodes of inlines. Contracts of publisherref34.some, element, texts, attrs, joined. Contract of publisherref34.joined: neighbouring texts are joined. -/
import Derived.Test.YtklhajbpfelliaaGreatDoorKRgY
import Derived.Test.YtklhajbpfelliaaGreatDoorKHsm
set_option maxHeartbeats 8000000
set_option maxRecDepth 100000
open Go.Lib (hid)
namespace Go.Proofs.YtklhajbpfelliaaGreatDoor
open Go.Proofs.Tryz
open List renaming getElem?_eq_getElem->jF9,length_append->jG0,length_map->jG1,mem_of_getElem?->jG7,map_append->jGk,take_of_length_le->jGx
open Go.RowKit.Below renaming refl->jFj,heap_setCell->jG4,heap_alloc->jG5
open Nat renaming le_refl->jFk
open Option.some renaming inj->jG3
open Go.World renaming cell?->jH3,setCell->jH4
open Go renaming World->jIq,Value->jIz
open Go.RowKit
set_option linter.unusedVariables false
set_option linter.unusedSimpArgs false
section
variable {T:TypeId} {k U:Nat} {ok:Nat->Prop} {w0 w w':jIq} {ds es:List D} {rows:List (List jIz)} {v v':jIz}
theorem aG.reU (h:aG T k (fun _=>False) U w0 ds rows v w) (hs:w.heap.size<=w'.heap.size) (hb:∀ b,w0.heap.size<=b->b<U->w'.heap[b]?=w.heap[b]?):∃ w0',w0'.heap.size=w0.heap.size/\aG T k (fun _=>False) U w0' ds rows v w':=by
 have hl0:=h.GK;have hlU:=h.J6;have hn:w0.heap.size<=w'.heap.size:=by omega
 have hz:=jr (w:=w') hn;refine ⟨J8 w0.heap.size w',hz,?_,?_,h.len,by rw [hz];exact ru hn,h.oU,by rw [hz];exact h.GK,by omega⟩
 ·rw [hz];obtain ⟨h1,h2⟩:=h.own;refine ⟨h1,?_⟩;rcases h2 with h2 | ⟨g,cap,cur,rfl,r2,r3,r4⟩
  ·exact .inl h2
  ·exact .inr ⟨g,cap,cur,rfl,r2,(hb g r2 (h.oU g rfl)).trans r3,r4⟩
 ·rw [hz];exact aU.keep (fun b hb' hlt=>⟨hb',hb b (by rcases hb'.1 with h1 | h1;exact h1.elim;exact h1) hb'.2.2⟩) _ _ h.red
theorem ze {n m:Nat} {ops:Array Oper} {o:Oper} {a:Act} {K:Act->jIq->Prop} {Q:Exit->Act->jIq->Prop} {E:Prop} (hgd:o.guard=none) (s x:Operand) (t:TypeId) (ho:o.op=.call { callee:=.builtin .append,args:=#[s,x],argTypes:=#[t,t] }) (i:TypeInfo) (z:jIz) (bytes:Nat) (ht:prog.underlying t=some (.slice T)) (hi:prog.info? T=some i) (hz:i.zero=some z) (hsize:i.size=k) (hby:i.bytes=bytes) (hzs:z.cells.size=k) (hsz:0<k) (h:aG T k ok U w0 ds rows v w) (hB:∀ b,ok b->b<w0.heap.size) (vx:jIz) (hx:Rd (fun b=>ok b\/U<=b) w (.sl k es) [vx]) (h1:∀ (rs:List (List jIz)) (ok':Nat->Prop),aU ok' w es rs->∀ u∈rs.flatten,u.oneCell'=true) (hdn:ds.length=n) (hem:es.length=m) (hn:n+m<=10000000) (nV:bytes<=1000) (hs:a.eval s=v) (hxe:a.eval x=vx) (hK:∀ a' c' rows' w',aG T k ok w'.heap.size w0 (ds++es) rows' (.slice a' (n+m) c') w'->w.grownBy w' v.ownBlock->((Value.slice a' (n+m) c').ownBlock=v.ownBlock\/(Value.slice a' (n+m) c').ownBlock=some w.heap.size)->K (a.put o.dst (.slice a' (n+m) c')) w') : if Region.wanted o (yielded ops a.tmps)=true then Oper.wp prog o a w K Q else E:=by subst hdn hem;obtain ⟨A,c,rs,rfl,h2,h3,h4,h5,h6⟩:=Rd.J7 hx;have hmul:(ds.length+es.length)*bytes<=140737488355328:=Nat.le_trans (Nat.mul_le_mul hn nV) (by omega);refine wV _ hgd s x t ho w0.heap.size T i z k bytes ht hi hz hsize hby hzs hsz v ds.length rows.flatten hs h.own w.heap.size A es.length c rs.flatten hxe h6 (h1 rs _ h4) (by unfold maxLen;omega) hmul (by have:=h.aO.size;omega) ?_;intro v' w' hown hg hat;obtain ⟨a',c',rfl⟩:=kY hown;exact hK a' c' _ w' (h.put hB h4 h5 (World.grownBy.refl w none) hown hg hat) hg hat
end
def Sb (S:Nat) (w0 w wB:jIq) (L:List Nd) (e:Ending) (w':jIq):Prop:=
 e=.returned (.tuple #[])/\∃ rows v wB',wB'.heap.size=wB.heap.size/\aG 30 4 (fun _=>False) w'.heap.size wB' (L.map Nd.d) rows v w'/\aJ S v 28 w'/\EG (S+1) w'.heap.size [] w' /\
  (∀ g,v.ownBlock=some g->g<w0.heap.size\/w.heap.size<=g)/\(∀ b,w0.heap.size<=b->b<w.heap.size->w'.heap[b]?=w.heap[b]?)/\Below S w w'
theorem C8 (S U:Nat) (l:List UInt8) (L:List Nd) (rows:List (List jIz)) (v:jIz) (w0 w wB:jIq) (hsB:S+2<=wB.heap.size) (hrow:aG 30 4 (fun _=>False) U wB (L.map Nd.d) rows v w0) (hbx:aJ S v 28 w0) (hbd:EG (S+1) U (Lib.byteCells l) w0) (hb:Below w0.heap.size w0 w) (hL:L.length<=3000000) : Calls prog 57 #[.pointer (some ⟨S,0,none⟩),.pointer (some ⟨S+1,0,none⟩)] w (Sb S w0 w wB (L++bK ⟨l.toArray⟩)):=by
 obtain ⟨iN,qG,fF,fG,fH⟩:=info_parts iE;obtain ⟨n,hn⟩:∃ n,n=(L.map Nd.d).length:=⟨_,rfl⟩;obtain ⟨av,cv,rfl,-,-⟩:=hrow.cap hn.symm;obtain ⟨m,hm⟩:∃ m,m=(bK ⟨l.toArray⟩).length:=⟨_,rfl⟩;have hm1:m<=1:=by rw [hm];unfold bK;split<;>simp
 have hn1:n<=3000000:=by rw [hn,jG1];exact hL
 have hem:((bK ⟨l.toArray⟩).map Nd.d).length=m:=by rw [jG1,hm]
 have jE1:=hrow.J6;have hBU:=hrow.GK;have hsz:=hb.size;have hSU:S+2<=U:=by omega
 have Kj:Hid (∀ g,(Value.slice av n cv).ownBlock=some g->wB.heap.size<=g/\g<U):=fun g hg=>⟨(hrow.own.lt g hg).1,hrow.oU g hg⟩
 have HN:=hid hn.symm;have HEM:=hid hem;have bE:=hid hrow;have nJ:=hid hbd;have HB:=hid hb;have bxw:w.drew.cell? ⟨S,0,none⟩=some (.slice av n cv):=(hb.cell (p:=⟨S,0,none⟩) (by show S<_;omega)).trans hbx.cell;have ST:=hid (O8 (S+1) U l w0 w.drew hbd ⟨hb.os,hb.tape,hb.output,hb.size,hb.block⟩);have qw:=hid hbx;clear hrow hbd hb hn hm hem hbx hL;go_enter func57,ntmps57;go_upto_region 0 with (fail)
 refine kC 4 (fun w'=>w'.cell? ⟨S,0,none⟩=some (.slice av n cv)) (by kernel_rfl) bxw ?_;intro hH;refine BO 0 rfl (by kernel_rfl) hH (by rfl) (by intro wv hSw;(try dsimp only at hSw);go_simp;try with_reducible rfl) ?_;refine JA (i:=1) rfl (by kernel_rfl) (fun KQ hK=>?_);go_simp;go_at_call 58
 (with_reducible refine ST.out.mono ?_)
 rintro e w1 ⟨rfl,o1,o2,o3,z1,k1,k2⟩;have z1:w1.heap.size=w.heap.size:=z1;have Z1:=hid z1;have K1:=hid (show ∀ b,b<U->w1.heap[b]?=w0.heap[b]? from fun b hb=>(k1 b hb).trans (HB.out.block b (by omega)));have K2:=hid (show ∀ b,w0.heap.size<=b->w1.heap[b]?=w.heap[b]? from fun b hb=>k2 b hb);have O1:=hid (show w1.os=w0.os/\w1.tape=w0.tape/\w1.output=w0.output from ⟨o1.trans HB.out.os,o2.trans HB.out.tape,o3.trans HB.out.output⟩);have hz1:w.heap.size<=w1.heap.size:=Nat.le_of_eq z1.symm;have S1:w1.cell? ⟨S,0,none⟩=some (.slice av n cv):=by rw [jy (K1.out S (by omega))];exact qw.out.cell
 have DT:=hid (jD ⟨l.toArray⟩ w1);clear o1 o2 o3 z1 k1 k2 ST;refine hK.out _ _ (fun _=>S1) (fun hH2=>?_);clear hK KQ hH;have hH:=hH2 (by decide);clear hH2;refine JA (i:=2) rfl (by kernel_rfl) (fun KQ hK=>?_);go_simp;go_at_call 19
 (with_reducible refine DT.out.mono ?_)
 rintro e w2 ⟨bD,v2,rfl,hrow2⟩;obtain ⟨a2,c2,rfl,-,-⟩:=hrow2.cap HEM.out;have b2:=hrow2.aO;have hz2:=b2.size;have U2:=hid (bE.out.same (w':=w2) (by omega) ⟨b2.os.trans O1.out.1,b2.tape.trans O1.out.2.1,b2.output.trans O1.out.2.2⟩ (fun b hb=>(b2.block b (by omega)).trans (K1.out b hb)));have R2:=hid (show Rd (fun b=>False\/U<=b) w2 (.sl 4 ((bK ⟨l.toArray⟩).map Nd.d)) [.slice a2 m c2] from hrow2.cu.weaken (fun b hb=>.inr (by omega)));have B2:=hid b2;have S2:w2.cell? ⟨S,0,none⟩=some (.slice av n cv):=(b2.cell (p:=⟨S,0,none⟩) (by show S<_;omega)).trans S1;clear hrow2 b2 DT S1;refine hK.out _ _ (fun _=>S2) (fun hH2=>?_);clear hK KQ hH;have hH:=hH2 (by decide);clear hH2;refine JA (i:=3) rfl (by kernel_rfl) (fun KQ hK=>?_);refine ze rfl (.tmp 2) (.tmp 4) 28 rfl iN _ 80 underlying28 qG fF fG fH rfl (by decide) U2.out (fun _=>False.elim) (.slice a2 m c2) R2.out (fun rs ok' h=>EF (bK ⟨l.toArray⟩) rs ok' w2 h) HN.out HEM.out (by omega) (by decide) rfl rfl ?_;intro a3 c3 dH w3 hrow3 hg3 xw;have hSv:some S≠(Value.slice av n cv).ownBlock:=fun e=>by have:=(Kj.out S e.symm).1;omega
 have jyq:some (S+1)≠(Value.slice av n cv).ownBlock:=fun e=>by have:=(Kj.out (S+1) e.symm).1;omega
 have bx3:aJ S (.slice av n cv) 28 w3:=(hg3.block S (by omega) hSv).trans ((B2.out.block S (by omega)).trans ((K1.out S (by omega)).trans qw.out));have BX3:=hid bx3;have S3:=bx3.cell;have F3:=bx3.free;have B3:Hid (∀ b,b<U->(∀ g,(Value.slice av n cv).ownBlock=some g->b≠g)->w3.heap[b]?=w0.heap[b]?):=fun b hb hne=>(hg3.block b (by omega) (fun e=>hne b e.symm rfl)).trans ((B2.out.block b (by omega)).trans (K1.out b hb))
 have C3:Hid (∀ b,w0.heap.size<=b->b<w.heap.size->w3.heap[b]?=w.heap[b]?):=fun b hb1 hb2=>(hg3.block b (by omega) (fun e=>by have:=(Kj.out b e.symm).2;omega)).trans ((B2.out.block b (by omega)).trans (K2.out b hb1))
 have HW3:Hid (w2.heap.size<=w3.heap.size/\w3.os=w0.os/\w3.tape=w0.tape/\w3.output=w0.output):=⟨hg3.size,hg3.os.trans (B2.out.os.trans O1.out.1),hg3.tape.trans (B2.out.tape.trans O1.out.2.1),hg3.output.trans (B2.out.output.trans O1.out.2.2)⟩;have xL:Hid (∀ g,(Value.slice a3 (n+m) c3).ownBlock=some g->g<w0.heap.size\/w.heap.size<=g):=fun g hg=>by
  rcases xw with e | e
  ·rw [e] at hg;have:=(Kj.out g hg).2;omega
  ·rw [e] at hg;have:=jG3 hg;omega
 have U3:=hid hrow3;have hz3:=HW3.out.1;clear hrow3 hg3 xw hSv jyq bx3 U2 R2 S2 K1 K2;refine hK.out _ _ (fun _=>S3) (fun hH2=>?_);clear hK KQ hH;have hH:=hH2 (by decide);clear hH2;refine JA (i:=4) rfl (by kernel_rfl) (fun KQ hK=>?_);go_simp;refine hK.out _ _ (fun h=>absurd rfl h) (fun _=>?_);clear hK KQ;refine kD (by kernel_rfl) ?_ _;obtain ⟨w4,hw4⟩:∃ w4,w4=w3.setCell ⟨S,0,none⟩ (.slice a3 (n+m) c3):=⟨_,rfl⟩;rw [<- hw4];have bx4:aJ S (.slice a3 (n+m) c3) 28 w4:=by rw [hw4];exact BX3.out.set _
 have g4:w3.grownBy w4 (some S):=by rw [hw4];exact ⟨rfl,rfl,rfl,by simp [jH4],fun b _ hb=>jG4 w3 ⟨S,0,none⟩ _ b (fun e=>hb (by rw [e]))⟩
 have hz4:w3.heap.size<=w4.heap.size:=g4.size;have HZ4:Hid (w4.heap.size=w3.heap.size):=by show _=_;rw [hw4];simp [jH4]
 obtain ⟨wB4,hB4,hrow4⟩:=U3.out.hop2 (p:=S) (by omega) g4;have BX4:=hid bx4;have G4:=hid g4;have U4:=hid hrow4;have kS:=hid hB4;have Xv:∃ p vb,w4.heap[S+1]?=some (.cells #[p,vb] 96 (0,0)):=by
  have e1:w4.heap[S+1]?=w0.heap[S+1]?:=(g4.block (S+1) (by omega) (by simp)).trans (B3.out (S+1) (by omega) (fun g hg=>by have:=(Kj.out g hg).1;omega));rcases nJ.out with ⟨-,vb,h,-⟩ | ⟨-,vb,h,-⟩
  ·exact ⟨_,vb,e1.trans h⟩
  ·exact ⟨_,vb,e1.trans h⟩
 obtain ⟨p4,vb4,Xv⟩:=Xv;have RS:=hid (Xw (S+1) p4 vb4 w4 Xv);clear hw4 bx4 g4 hrow4 hB4 Xv S3 F3 BX3 U3 hH bxw;go_wp2_with fail
 (with_reducible refine RS.out.mono ?_)
 rintro e w5 ⟨rfl,hb5,g5⟩;obtain ⟨wB5,hB5,bC⟩:=U4.out.hop2 (p:=S+1) (by rw [kS.out];omega) g5;have hz5:=g5.size;have HF:Hid (Sb S w0 w wB (L++bK ⟨l.toArray⟩) (.returned (.tuple #[])) w5):=by
  refine ⟨rfl,dH,_,wB5,hB5.trans kS.out,?_,(g5.block S (by omega) (by simp)).trans BX4.out,EG.new hb5 (by omega),xL.out,fun b h1 h2=>?_,?_⟩
  ·rw [jGk];exact (bC.up (U':=w5.heap.size) (by have:=HZ4.out;omega) (jFk _))
  ·exact (g5.block b (by omega) (fun e=>by have:=jG3 e;omega)).trans ((G4.out.block b (by omega) (fun e=>by have:=jG3 e;omega)).trans (C3.out b h1 h2))
  ·have h0:=HB.out;refine ⟨g5.os.trans (G4.out.os.trans (HW3.out.2.1.trans h0.os.symm)),g5.tape.trans (G4.out.tape.trans (HW3.out.2.2.1.trans h0.tape.symm)),g5.output.trans (G4.out.output.trans (HW3.out.2.2.2.trans h0.output.symm)),by omega,fun b hb=>?_⟩;exact (g5.block b (by omega) (fun e=>by have:=jG3 e;omega)).trans ((G4.out.block b (by omega) (fun e=>by have:=jG3 e;omega)).trans ((B3.out b (by omega) (fun g hg=>by have:=(Kj.out g hg).1;omega)).trans (h0.block b (by omega)).symm))
 clear hb5 g5 bC hB5 RS;go_wp2
 go_end0
 exact HF.out
open Go.RowKit
theorem jsz (x:aj) (h:x.small):x.nd.tx.size<=300:=by
 obtain ⟨k,t,d,ti,a,ar,ci,ks⟩:=x;rw [aj.small] at h;have h1:=h.1;have e0:(⟨#[]⟩:ByteArray).size=0:=rfl;have e1:Kk.size=1:=rfl;rw [aj.nd];have key:∀ (c:Prop) [Decidable c] (a b:Nd),a.tx.size<=300->b.tx.size<=300->(if c then a else b).tx.size<=300:=by
  intro c _ a b h1 h2;split
  ·exact h1
  ·exact h2
 have el:∀ (n:ByteArray) (a:List Pr) (ks:List Nd),(aH n a ks).tx.size<=300:=fun _ _ _=>by show (⟨#[]⟩:ByteArray).size<=300;omega
 refine key _ _ _ (by show Kk.size<=300;omega) ?_;refine key _ _ _ (el _ _ _) (key _ _ _ (el _ _ _) (key _ _ _ (el _ _ _) (key _ _ _ (el _ _ _) (key _ _ _ (el _ _ _) (key _ _ _ (el _ _ _) (key _ _ _ (el _ _ _) (key _ _ _ (el _ _ _) (key _ _ _ (el _ _ _) (key _ _ _ (el _ _ _) (key _ _ _ (el _ _ _) h1))))))))))
theorem aj.l8:∀ (l:List aj),aj.aC l->∀ x∈l,x.small
 | [],_,x,hx=>by cases hx
 | y::l,h,x,hx=>by
  rw [aj.aC] at h;rcases List.mem_cons.1 hx with rfl | hx
  ·exact h.1
  ·exact aj.l8 l h.2 x hx
theorem G5:∀ (l:List Nd) (p:List Nd × ByteArray),(l.foldl eH p).1.length<=p.1.length+2*l.length
 | [],p=>by simp
 | x::l,p=>by
  have h:=G5 l (eH p x);have h2:(eH p x).1.length<=p.1.length+2:=by
   unfold eH;split
   ·show p.1.length<=_;omega
   ·show (p.1++bK p.2++[x]).length<=_;rw [jG0,jG0];have:(bK p.2).length<=1:=by unfold bK;split<;>simp
    simp;omega
  rw [List.foldl_cons,List.length_cons];omega
theorem M4:∀ (l:List Nd) (p:List Nd × ByteArray),(∀ x∈l,x.tx.size<=300)->(l.foldl eH p).2.size<=p.2.size+300*l.length
 | [],p,_=>by simp
 | x::l,p,hx=>by
  have h:=M4 l (eH p x) (fun y hy=>hx y (List.mem_cons_of_mem _ hy));have h1:=hx x (List.mem_cons_self ..);have h2:(eH p x).2.size<=p.2.size+300:=by
   unfold eH;split
   ·show (p.2++x.tx).size<=_;rw [ByteArray.size_append];omega
   ·show (⟨#[]⟩:ByteArray).size<=_;have:(⟨#[]⟩:ByteArray).size=0:=rfl;omega
  rw [List.foldl_cons,List.length_cons];omega
theorem Kl (l:List Nd) (k:Nat) (x:Nd) (h:l[k]?=some x):iw (l.take (k+1))=eH (iw (l.take k)) x:=by rw [List.take_add_one,h];exact Km _ _
theorem EH (a b:ByteArray):Lib.strCells (a++b)=Lib.strCells a++Lib.strCells b:=by unfold Lib.strCells;rw [ByteArray.data_append];simp
def sO (w:jIq) (g o:Nat) (c0 c1 c2 c3:jIz):jIq:=(((w.setCell ⟨g,o,none⟩ c0).setCell ⟨g,o+1,none⟩ c1).setCell ⟨g,o+2,none⟩ c2).setCell ⟨g,o+3,none⟩ c3
theorem iG (w:jIq) (g o:Nat) (c0 c1 c2 c3:jIz) (b:Nat) (h:b≠g):(sO w g o c0 c1 c2 c3).heap[b]?=w.heap[b]?:=by unfold sO;rw [jG4 _ ⟨g,o+3,none⟩ _ b h,jG4 _ ⟨g,o+2,none⟩ _ b h,jG4 _ ⟨g,o+1,none⟩ _ b h,jG4 _ ⟨g,o,none⟩ _ b h]
theorem kE (w:jIq) (b b' o o':Nat) (u v:jIz) (h:b≠b'):(w.setCell ⟨b,o,none⟩ u).setCell ⟨b',o',none⟩ v=(w.setCell ⟨b',o',none⟩ v).setCell ⟨b,o,none⟩ u:=by
 unfold jH4;simp only [World.mk.injEq,and_true];apply Array.ext_getElem?;intro i;simp only [Array.getElem?_modify];by_cases h1:b=i
 ·subst h1;have hb:¬ b'=b:=fun e=>h e.symm
  simp [hb]
 ·simp [h1]
theorem uQ (w:jIq) (S g o:Nat) (V c0 c1 c2 c3:jIz) (h:S≠g):sO (w.setCell ⟨S,0,none⟩ V) g o c0 c1 c2 c3=(sO w g o c0 c1 c2 c3).setCell ⟨S,0,none⟩ V:=by unfold sO;rw [kE w S g,kE _ S g,kE _ S g,kE _ S g]<;>exact h
theorem q32 {w:jIq} {g o:Nat} {c0 c1 c2 c3:jIz} {b j:Nat} {v:jIz} (h:w.cell? ⟨b,j,none⟩=some v) (hb:b≠g):(sO w g o c0 c1 c2 c3).cell? ⟨b,j,none⟩=some v:=by rw [jy (iG w g o c0 c1 c2 c3 b hb)];exact h
section
variable {T:TypeId} {U:Nat} {ok:Nat->Prop} {w0 w:jIq} {ds:List D} {rows:List (List jIz)} {v:jIz}
theorem Sc{P Q:Prop}(q:Q)(h:Nonempty Q->P:=by
 intro qQ;have hl:rows.length=n:=by have:=h.red.len;simp at this;omega
 have hfl:rows.flatten.length=n*4:=by rw [lg 4 rows (fun r hr=>h.len r (by simp [hr])),hl]
 revert hl hfl;exact qQ.elim fun x=>x):P:=h ⟨q⟩
theorem aG.ja5 {g n c:Nat} {d0 d1:D} {a0 a1 a2 a3:Value} (h:aG T 4 ok U w0 (ds++[d0]) (rows++[[a0,a1,a2,a3]]) (.slice (some ⟨g,0,none⟩) (n+1) c) w) (hn:ds.length=n) (c0 c1 c2 c3:Value) (hd:Rd (fun b=>(ok b\/w0.heap.size<=b)/\g≠b/\b<U) w d1 [c0,c1,c2,c3]):aG T 4 ok U w0 (ds++[d1]) (rows++[[c0,c1,c2,c3]]) (.slice (some ⟨g,0,none⟩) (n+1) c) (sO w g (n*4) c0 c1 c2 c3):=by
 have hl:rows.length=n:=by have:=h.red.len;simp at this;omega
 have hfl:rows.flatten.length=n*4:=by rw [lg 4 rows (fun r hr=>h.len r (by simp [hr])),hl]
 have hown:=h.own;have e1:(rows++[[a0,a1,a2,a3]]).flatten=rows.flatten++[a0,a1,a2,a3]:=by simp
 rw [e1,List.length_append,List.length_singleton,hn] at hown;have st:∀ (W:World) (zs:List Value),W.ownsRow w0.heap.size T 4 (.slice (some ⟨g,0,none⟩) (n+1) c) (n+1) (rows.flatten++zs)->∀ (j:Nat) (u:Value),(W.setCell ⟨g,n*4+j,none⟩ u).ownsRow w0.heap.size T 4 (.slice (some ⟨g,0,none⟩) (n+1) c) (n+1) (rows.flatten++zs.set j u):=by intro W zs hW j u;have:=(hW.stored (n*4+j) u).1;rw [List.set_append_right _ _ (by omega),hfl,Nat.add_sub_cancel_left] at this;exact this
 have o4:=st _ _ (st _ _ (st _ _ (st _ _ hown 0 c0) 1 c1) 2 c2) 3 c3;have hb:∀ b,b≠g->(sO w g (n*4) c0 c1 c2 c3).heap[b]?=w.heap[b]?:=fun b hb=>iG w g _ _ _ _ _ b hb
 have hz:(sO w g (n*4) c0 c1 c2 c3).heap.size=w.heap.size:=by simp [sO,World.setCell]
 have hg0:w0.heap.size<=g:=(h.own.lt g rfl).1;refine ⟨?_,?_,?_,?_,h.oU,h.GK,by rw [hz];exact h.J6⟩
 ·rw [show (rows++[[c0,c1,c2,c3]]).flatten=rows.flatten++[c0,c1,c2,c3] by simp,List.length_append,List.length_singleton,hn];exact o4
 ·obtain ⟨rA,rB,e2,hA,hB⟩:∃ rA rB,rows++[[a0,a1,a2,a3]]=rA++[rB]/\aU (fun b=>(ok b\/w0.heap.size<=b)/\(Value.slice (some ⟨g,0,none⟩) (n+1) c).ownBlock≠some b/\b<U) w ds rA/\True:=by
   refine ⟨rows,_,rfl,?_,trivial⟩;have h0:=h.red;clear st o4 hown;generalize hP:(fun b=>(ok b\/w0.heap.size<=b)/\(Value.slice (some ⟨g,0,none⟩) (n+1) c).ownBlock≠some b/\b<U)=P at h0;have gen:∀ (ds:List D) (rows:List (List Value)) (d0:D) (r0:List Value),aU P w (ds++[d0]) (rows++[r0])->rows.length=ds.length->aU P w ds rows:=by
    intro ds;induction ds with
    | nil=>intro rows d0 r0 _ hl;rw [List.eq_nil_of_length_eq_zero hl];exact aU.none
    | cons x ds ih=>
     intro rows d0 r0 hr hl;cases rows with
     | nil=>simp at hl
     | cons r rows=>
      obtain ⟨r',rs,e,h1,h2⟩:=hr.aM;have e':r'=r/\rs=rows++[r0]:=by simp at e;exact ⟨e.1.symm,e.2.symm⟩
      obtain ⟨rfl,rfl⟩:=e';exact aU.cons h1 (ih rows d0 r0 h2 (by simpa using hl))
   exact gen ds rows d0 _ h0 (by omega)
  have e3:rA=rows:=by have:=congrArg List.dropLast e2;simpa using this.symm
  subst e3;refine aU.app (aU.keep (fun b hb' _=>⟨hb',hb b (fun e=>by subst e;exact hb'.2.1 rfl)⟩) _ _ hA) (aU.one (Rd.keep (fun b hb' _=>⟨⟨hb'.1,fun e=>hb'.2.1 (by simpa [Value.ownBlock] using e),hb'.2.2⟩,hb b (fun e=>hb'.2.1 e.symm)⟩) _ _ hd))
 ·intro r hr;rcases List.mem_append.1 hr with hr | hr
  ·exact h.len r (by simp [hr])
  ·simp at hr;subst hr;rfl
 ·have hbel:=h.aO;exact (((hbel.setCell (p:=⟨g,n*4,none⟩) hg0 c0).setCell (p:=⟨g,n*4+1,none⟩) hg0 c1).setCell (p:=⟨g,n*4+2,none⟩) hg0 c2).setCell (p:=⟨g,n*4+3,none⟩) hg0 c3
theorem aG.C9 {g n c:Nat} {d0:D} {a0 a1 a2 a3:Value} (h:aG T 4 ok U w0 (ds++[d0]) (rows++[[a0,a1,a2,a3]]) (.slice (some ⟨g,0,none⟩) (n+1) c) w) (hn:ds.length=n) : w.cell? ⟨g,n*4,none⟩=some a0/\w.cell? ⟨g,n*4+1,none⟩=some a1/\w.cell? ⟨g,n*4+2,none⟩=some a2/\w.cell? ⟨g,n*4+3,none⟩=some a3/\∀ j,w.frozen? ⟨g,j,none⟩=false:=by
 have hl:rows.length=n:=by have:=h.red.len;simp at this;omega
 have hfl:rows.flatten.length=n*4:=by rw [lg 4 rows (fun r hr=>h.len r (by simp [hr])),hl]
 have hc:∀ i u,[a0,a1,a2,a3][i]?=some u->w.cell? ⟨g,n*4+i,none⟩=some u:=by
  intro i u hu;have:=h.own.cells (g:=g) rfl (n*4+i) u (by
   rw [show (rows++[[a0,a1,a2,a3]]).flatten=rows.flatten++[a0,a1,a2,a3] by simp,List.getElem?_append_right (by omega),hfl,Nat.add_sub_cancel_left];exact hu)
  have e:((⟨g,0,none⟩:Addr).add (n*4+i))=⟨g,n*4+i,none⟩:=by unfold Addr.add;split<;>simp_all
  rwa [e] at this
 refine ⟨hc 0 _ rfl,hc 1 _ rfl,hc 2 _ rfl,hc 3 _ rfl,fun j=>?_⟩;rcases h.own.2 with ⟨h1,-⟩ | ⟨g',cap,cur,h1,-,h2,-⟩
 ·cases h1
 ·injection h1 with h1
  injection h1 with h1
  injection h1 with h1
  subst h1;simp [World.frozen?,h2]
theorem O9 {k n:Nat} {ops:Array Oper} {o:Oper} {a:Act} {K:Act->World->Prop} {Q:Exit->Act->World->Prop} {E:Prop} (hgd:o.guard=none) (s x:Operand) (t:TypeId) (ho:o.op=.call { callee:=.builtin .append,args:=#[s,x],argTypes:=#[t,t] }) (i:TypeInfo) (z:Value) (bytes:Nat) (ht:prog.underlying t=some (.slice T)) (hi:prog.info? T=some i) (hz:i.zero=some z) (hsize:i.size=k) (hby:i.bytes=bytes) (hzs:z.cells.size=k) (hsz:0<k) (h:aG T k ok U w0 ds rows v w) (hB:∀ b,ok b->b<w0.heap.size) (d:D) (r:List Value) (hx:Rd (fun b=>ok b\/U<=b) w d r) (hr:r.length=k) (h1:∀ u∈r,u.oneCell'=true) (hdn:ds.length=n) (hn:n<=10000000) (nV:bytes<=1000) (hs:a.eval s=v) (hxe:a.eval x=.slice (some ⟨w.heap.size,0,none⟩) 1 1) (hK:∀ g c' w',aG T k ok w'.heap.size w0 (ds++[d]) (rows++[r]) (.slice (some ⟨g,0,none⟩) (n+1) c') w'->(w.alloc (.cells r.toArray T)).grownBy w' v.ownBlock->(v.ownBlock=some g\/w.heap.size<g)->n+1<=c'->K (a.put o.dst (.slice (some ⟨g,0,none⟩) (n+1) c')) w') : if Region.wanted o (yielded ops a.tmps)=true then Oper.wp prog o a (w.alloc (.cells r.toArray T)) K Q else E:=by
 subst hdn;have hmul:(ds.length+1)*bytes<=140737488355328:=Nat.le_trans (Nat.mul_le_mul (show ds.length+1<=10000001 by omega) nV) (by omega);refine step_append_lies _ hgd s x t ho w0.heap.size T i z k bytes ht hi hz hsize hby hzs hsz v ds.length rows.flatten hs (h.own.alloc _) ⟨w.heap.size,0,none⟩ 1 1 r hxe (by omega) (GL w r T) h1 (by omega) (by unfold maxLen;omega) hmul (by have:=h.aO.size;simp;omega) (w.heap.size+1) (by simp) ?_;intro g cap w' hown hg hat _;have Xx:v.ownBlock=some g\/w.heap.size<g:=hat.elim (fun e=>.inl (by rw [e])) (fun e=>.inr (by omega));have hcp:ds.length+1<=cap:=by obtain ⟨g',cap',he,hle⟩:=jE hown (by omega);injection he with _ _ he;omega
 refine hK _ _ w' ?_ hg Xx hcp;refine h.put hB (bD:=[r]) (es:=[d]) (aU.one (Rd.keep (fun b hb hlt=>⟨hb,Below.heap_alloc w _ b hlt⟩) _ _ hx)) (by simp [hr]) (World.grownBy_alloc w _ none) (by simpa using hown) hg (hat.elim (fun e=>.inl (by rw [e];rfl)) (fun e=>.inr (by rw [e];simp [Value.ownBlock])))
end
def EI (S:Nat) (w:World) (N:List Nd) (vi:Value) (wr:World):Prop:=
 ∃ (k:Nat) (rows:List (List Value)) (v:Value) (U:Nat) (wB:World),k<=N.length/\vi=.int .i64 k/\wB.heap.size=S+2/\aG 30 4 (fun _=>False) U wB ((iw (N.take k)).1.map Nd.d) rows v wr /\
  aJ S v 28 wr/\EG (S+1) U (Lib.strCells (iw (N.take k)).2) wr/\Below S w wr
theorem Kn {p:Nat} {w:World} {c0 c1 c2 c3 c4 c5 c6 c7 c8 c9:Value} (h:PB p [c0,c1,c2,c3,c4,c5,c6,c7,c8,c9] w) : w.cell? ⟨p,0,none⟩=some c0/\w.cell? ⟨p,1,none⟩=some c1/\w.cell? ⟨p,2,none⟩=some c2/\w.cell? ⟨p,3,none⟩=some c3/\w.cell? ⟨p,4,none⟩=some c4/\w.cell? ⟨p,5,none⟩=some c5 /\ w.cell? ⟨p,6,none⟩=some c6/\w.cell? ⟨p,7,none⟩=some c7/\w.cell? ⟨p,8,none⟩=some c8/\w.cell? ⟨p,9,none⟩=some c9:=
 ⟨h.cell 0 _ rfl,h.cell 1 _ rfl,h.cell 2 _ rfl,h.cell 3 _ rfl,h.cell 4 _ rfl,h.cell 5 _ rfl,h.cell 6 _ rfl,h.cell 7 _ rfl,h.cell 8 _ rfl,h.cell 9 _ rfl⟩
theorem rz.ja6 {S:Nat} {w w':World} {at_:At} {ar:List ByteArray} {ci:List Ci} {ks:List aj} {vc vp va vi vk:Value} (h:rz (·<S) w at_ ar ci ks vc vp va vi vk) (hb:Below S w w') (hS:S<=w'.heap.size):rz (·<w'.heap.size) w' at_ ar ci ks vc vp va vi vk:=
 have hs:sP (·<S) (·<w'.heap.size) w w':=fun b (h1:b<S) _=>⟨by omega,hb.block b h1⟩
 ⟨⟨Rd.keep hs _ _ h.at_.cls,Rd.keep hs _ _ h.at_.aF⟩,Rd.keep hs _ _ h.args,Rd.keep hs _ _ h.fC,Rd.keep hs _ _ h.kids⟩
theorem QM (s:ByteArray):s.toList.isEmpty=bq s:=by rw [Lib.toList_data,Bool.eq_iff_iff,List.isEmpty_iff,bq,decide_eq_true_iff]
theorem Sd {s:ByteArray} (h:bq s=false):0<s.size:=by
 unfold bq at h;rw [decide_eq_false_iff_not] at h;have:s.data.toList.length≠0:=fun e=>h (List.eq_nil_of_length_eq_zero e)
 have e2:s.data.toList.length=s.size:=by simp
 omega
theorem EG.Xy {b U U':Nat} {w w':World} (h:EG b U [] w) (hs:w'.heap[b]?=w.heap[b]?) (hU:b<U'):EG b U' [] w':=
 h.imp (fun ⟨_,v,h2,_,h4⟩=>⟨hU,v,hs.trans h2,by rw [h4 rfl];exact World.ownsRowF_nil _ _ _ _,h4⟩) (fun ⟨_,v,h2,_,h4⟩=>⟨hU,v,hs.trans h2,by rw [h4 rfl];exact World.ownsRowF_nil _ _ _ _,h4⟩)
theorem bU{P Q:Prop}(q:Q)(h:Nonempty Q->P:=by
 intro qQ;try simp only [Act.put,List.setIfInBounds_toArray,List.set_cons_zero,List.set_cons_succ]
 exact qQ.elim fun x=>x):P:=h ⟨q⟩
theorem aN{P Q:Prop}(q:Q)(h:Nonempty Q->P:=by
 intro qQ;have hH:=hH2 (by decide) (by kernel_rfl);revert hH;exact qQ.elim fun x=>x):P:=h ⟨q⟩
theorem gN{P:Prop}(h:P:=by
 go_wp2;go_roundw;case rel=>exact HF.out
 case measure=>simp [intOf];omega):P:=h
theorem Sg{P Q:Prop}(q:Q)(h:Nonempty Q->P:=by
 intro qQ;obtain ⟨p,hp⟩:∃ p,p=wr.heap.size:=⟨_,rfl⟩;obtain ⟨wA,iH⟩:∃ wA,wA=wr.alloc (.cells #[.int .i64 kd,.string t,.string d,.string ti,.string at_.id,.slice ac nc cc,.slice ap np cp,.slice aa na ca,.slice ai ni mR,.slice ak nk ck] 47):=⟨_,rfl⟩;have PA:PB p [.int .i64 kd,.string t,.string d,.string ti,.string at_.id,.slice ac nc cc,.slice ap np cp,.slice aa na ca,.slice ai ni mR,.slice ak nk ck] wA:=by rw [iH,hp];exact heap_alloc_new wr _
 revert p hp wA iH PA;exact qQ.elim fun x=>x):P:=h ⟨q⟩
theorem nX{P Q:Prop}(q:Q)(h:Nonempty Q->P:=by
 intro qQ;go_simp;refine hK.out _ _ (fun h=>absurd rfl h) (fun _=>?_);exact qQ.elim fun x=>x):P:=h ⟨q⟩
theorem mP{P Q:Prop}(q:Q)(h:Nonempty Q->P:=by
 intro qQ;refine eF (i:=6) rfl (by kernel_rfl) (fun KQ hK=>?_);go_simp;revert KQ hK;exact qQ.elim fun x=>x):P:=h ⟨q⟩
theorem ja7{P:Prop}(h:P:=by
 refine OQ (by kernel_rfl) ?_ _;have hsw:=uQ w5 S g5 (m3*4) (.slice (some ⟨g5,0,none⟩) (m3+1) c5) (.string nm) (.string tx) (.slice aA nA cA) (.slice aK nK cK) hSg;simp only [sO] at hsw;rw [hsw];clear hsw;exact REST):P:=h
theorem zh{P Q:Prop}(q:Q)(h:Nonempty Q->P:=by
 intro qQ;refine eF (i:=5) rfl (by kernel_rfl) (fun KQ hK=>?_);go_simp;revert KQ hK;exact qQ.elim fun x=>x):P:=h ⟨q⟩
theorem M6{P Q:Prop}(q:Q)(h:Nonempty Q->P:=by
 intro qQ;refine hK.out _ _ (fun _ h=>absurd h (by decide)) (fun _=>?_);exact qQ.elim fun x=>x):P:=h ⟨q⟩
theorem ja8{P Q:Prop}(q:Q)(h:Nonempty Q->P:=by
 intro qQ;have hcap:l.length<=cap:=by simpa using hs.le
 have hll:=aj.fK l;have hmx:=hs.max;unfold maxLen at hmx;obtain ⟨N,hN⟩:∃ N,N=aj.M7 l:=⟨_,rfl⟩;have hNl:N.length=l.length:=by rw [hN,pF,List.length_map]
 revert hcap hll hmx N hN hNl;exact qQ.elim fun x=>x):P:=h ⟨q⟩
theorem ja9{P:Prop}(h:P:=by
 intro x hx;rw [hN,pF] at hx;obtain ⟨y,hy,rfl⟩:=List.mem_map.1 hx;exact jsz y (aj.l8 l hsm y hy)):P:=h
theorem uR (n:Nat):∀ (l:List aj) (v:jIz) (w:jIq),aj.aY l<=n->n<=1000000->Rd (·<w.heap.size) w (bJ l) [v]->aj.aC l->aj.Ko l -> Calls prog 28 #[v] w (aQ w (dV l)):=by
 induction n using Nat.strongRecOn with
 | _ n ih=>
  intro l v w hn hnm hrd hsm htf;obtain ⟨iN,qG,fF,fG,fH⟩:=info_parts iE;obtain ⟨a,cap,hv,hs⟩:=Rd.ay hrd;obtain rfl:v=.slice a l.length cap:=by simpa using hv
  refine ja8 ?_;intro hcap hll hmx N hN hNl;have hNt:∀ x∈N,x.tx.size<=300:=by exact ja9
  have hNf:∀ x∈N,x.full:=by rw [hN];exact G6 l htf
  have jt0:dV l=(iw N).1++bK (iw N).2:=by rw [hN];exact Si l htf
  obtain ⟨S,hS⟩:∃ S,S=w.heap.size:=⟨_,rfl⟩;obtain ⟨W0,hW0⟩:∃ W,W=(w.alloc (.cells #[.slice none 0 0] 28)).alloc (.cells #[.pointer none,.slice none 0 0] 96):=⟨_,rfl⟩;have z0:W0.heap.size=S+2:=by rw [hW0,hS];simp
  have k0:aJ S (.slice none 0 0) 28 W0:=by rw [hW0,hS];exact (aJ.new w _ _).alloc _
  have k1:W0.heap[S+1]?=some (.cells #[.pointer none,.slice none 0 0] 96 (0,0)):=by
   rw [hW0,hS];have:=heap_alloc_new (w.alloc (.cells #[.slice none 0 0] 28)) (.cells #[.pointer none,.slice none 0 0] 96)
   rwa [World.size_alloc] at this
  have b0:Below S w W0:=by rw [hW0,hS];exact ((jFj _ _).alloc (jFk _) _).alloc (by simp) _
  have R0:Hid (EI S w N (.int .i64 0) W0):=⟨0,[],_,S+2,W0,Nat.zero_le _,rfl,z0,by rw [<- z0];exact aG.nil _ _ _ _,k0,EG.new k1 (by omega),b0⟩;have HS:=hid hs;have IH:=hid ih;have dw:=hid hsm;have HTF:=hid htf;have HN:=hid hN;have G7:=hid hNl;have HNT:=hid hNt;have HNF:=hid hNf;have oh:=hid jt0;have Sj:=hid hS;have HW0:=hid hW0;clear hs hv hrd ih hsm htf hN hNl hNt hNf jt0 hS hW0 z0 k0 k1 b0;go_enter func28,ntmps28;go_upto_region 3 with (fail)
  rw [<- Sj.out,<- HW0.out];go_wp2
  go_loopw [12] (fun vi wr=>EI S w N vi wr) (fun i _=>l.length-(intOf i).toNat)
  case atStart=>exact R0.out
  case round=>
   clear R0 HW0;obtain ⟨k,rows,v,U,wB,hk,rfl,hzB,hrow,hbx,hbd,hbel⟩:=hrel;rw [G7.out] at hk;obtain ⟨P,hP⟩:∃ P,P=iw (N.take k):=⟨_,rfl⟩;rw [<- hP] at hrow hbd;obtain ⟨m,hm⟩:∃ m,m=(P.1.map Nd.d).length:=⟨_,rfl⟩;have hm2:m<=2*k:=by
    have h:=G5 (N.take k) ([],⟨#[]⟩);have h2:(N.take k).length<=k:=List.length_take_le _ _;have h3:P.1=((N.take k).foldl eH ([],⟨#[]⟩)).1:=by rw [hP];rfl
    rw [<- h3] at h;rw [hm,jG1];simp at h;omega
   have hpt:P.2.size<=300*k:=by
    have h:=M4 (N.take k) ([],⟨#[]⟩) (fun x hx=>HNT.out x (List.mem_of_mem_take hx));have h2:(N.take k).length<=k:=List.length_take_le _ _;have h3:P.2=((N.take k).foldl eH ([],⟨#[]⟩)).2:=by rw [hP];rfl
    rw [<- h3] at h;have h4:(([]:List Nd),(⟨#[]⟩:ByteArray)).2.size=0:=rfl;omega
   obtain ⟨av,cv,rfl,-,-⟩:=hrow.cap hm.symm;have HM:=hid hm.symm;have HP:=hid hP;have bE:=hid hrow;have qw:=hid hbx;have nJ:=hid hbd;have Ga:=hid hzB;have hUr:=hrow.J6;have hSU:S+2<=U:=by have:=hrow.GK;omega
   have Xz:Hid (P.1.length=m):=by show _=_;rw [hm,jG1]
   clear hrow hbx hbd hm hP hzB;by_cases hlt:k<l.length
   ·refine jc ?_;intro x hx;have hNk:N[k]?=some x.nd:=by rw [HN.out,pF,List.getElem?_map,hx];rfl
    have hst:=Kl N k x.nd hNk;rw [<- HP.out] at hst;have hfull:=HNF.out x.nd (jG7 hNk);have htx:=HNT.out x.nd (jG7 hNk);have hxs:=aj.l8 l dw.out x (jG7 hx);have hxt:=EJ l HTF.out x (jG7 hx);have hsz:=aj.bI l k _ hx;obtain ⟨X,hX⟩:∃ X,X=x.nd:=⟨_,rfl⟩;rw [<- hX] at hst hfull htx;obtain ⟨kd,t,d,ti,at_,ar,ci,ks⟩:=x;obtain ⟨g,off,vc,vp,va,vi,vk,rfl,hok,hbl,hc,hR⟩:=MC HS.out hx;obtain ⟨c0,c1,c2,c3,c4,c5,c6,c7,c8,c9⟩:=hc.below (show Below w.heap.size w wr by rw [<- Sj.out];exact hbel);rw [aj.sz] at hsz;obtain ⟨ac,nc,cc,rfl⟩:=Rd.au hR.at_.cls
    obtain ⟨ap,np,cp,rfl⟩:=Rd.au hR.at_.aF
    obtain ⟨aa,na,ca,rfl⟩:=Rd.au hR.args;obtain ⟨ai,ni,mR,rfl⟩:=Rd.au hR.fC;obtain ⟨ak,nk,ck,rfl⟩:=Rd.au hR.kids;have HR:Hid (rz (·<S) w at_ ar ci ks (.slice ac nc cc) (.slice ap np cp) (.slice aa na ca) (.slice ai ni mR) (.slice ak nk ck)):=by rw [Sj.out];exact hR
    have HST:=hid hst;have HX:=hid hX;have Sk:=hid hfull;have HXS:=hid hxs;have HXT:=hid hxt;have iV:=hid hbel;have hSr:S<=wr.heap.size:=by have:=hbel.size;have:=Sj.out;omega
    clear hc hok hbl hR hst hX hfull hxs hxt hNk hx hbel;go_upto_region 7 with (fail)
    refine Sg ?_;intro p hp wA iH PA;have bA:Below wr.heap.size wr wA:=by rw [iH];exact (jFj _ _).alloc (jFk _) _
    rw [<- iH,<- hp];obtain ⟨e0,e1,e2,e3,e4,e5,e6,e7,e8,e9⟩:=Kn PA;have zA:=bA.size;have BA:=hid (iV.out.trans (bA.mono hSr));have HRA:=HR.out.ja6 BA.out (by omega);have LC:G8 wA ks (.slice ak nk ck):=fun W hW=>by
     have hsk:=HXS.out;rw [aj.small] at hsk;have htk:=HXT.out;rw [aj.tf] at htk;exact IH.out (aj.aY ks) (by omega) ks _ W (jFk _) (by omega) (HRA.kids.up hW) hsk.2.2.2.2.2.2.2.2 htk.2
    have IC:=Kq kd t d ti at_ ar ci ks _ _ _ _ _ wA HRA HXS.out LC (by omega)
    rw [<- HX.out] at IC;have IL:=hid IC;have EK:=hid bA;clear iH hp c0 c1 c2 c3 c4 c5 c6 c7 c8 c9 HRA LC IC PA bA;go_wp2_with fail
    (with_reducible refine IL.out.mono ?_)
    rintro e w1 ⟨vA,vK,rfl,WG,b1⟩;obtain ⟨aA,nA,cA,rfl⟩:=Rd.au WG.at_
    obtain ⟨aK,nK,cK,rfl⟩:=Rd.au WG.ks;have HND:=hid WG;have B1:=hid b1;have z1:=b1.size;clear e0 e1 e2 e3 e4 e5 e6 e7 e8 e9 WG b1 IL;obtain ⟨nm,tx,XA,XK⟩:=X;dsimp only [Nd.nm,Nd.tx,Nd.at_,Nd.ks] at htx HND;dsimp only [Nd.nm,Nd.tx];go_upto_region 8 with (fail)
    obtain ⟨q,hq⟩:∃ q,q=w1.heap.size:=⟨_,rfl⟩;obtain ⟨wN,hwN⟩:∃ wN,wN=w1.alloc (.cells #[.string nm,.string tx,.slice aA nA cA,.slice aK nK cK] 30):=⟨_,rfl⟩;have KN:CB 30 q [.string nm,.string tx,.slice aA nA cA,.slice aK nK cK] wN:=by rw [hwN,hq];exact CB.new _ _ w1
    have bN:Below w1.heap.size w1 wN:=by rw [hwN];exact (jFj _ _).alloc (jFk _) _
    have zN:wN.heap.size=q+1:=by rw [hwN,hq];simp
    have hqr:wA.heap.size<=q:=by rw [hq];exact z1
    have HQ:=hid hq;rw [<- hwN,<- hq];have BN:=hid (q01 EK.out (q01 B1.out bN));have HN1:=hid bN;have f0:=KN.cell 0 _ rfl;have f1:=KN.cell 1 _ rfl;have HKN:=hid KN;have ZN:=hid zN;have hzr:=BN.out.size;clear hwN hq KN bN zN;by_cases hem:bq nm=true
    ·have q1:nm.toList.isEmpty=true:=by rw [QM];exact hem
     have q2:nm.toList=[]:=by rw [List.isEmpty_iff] at q1;exact q1
     have htp:0<tx.size:=Sd (Sk.out hem).2;have Sl:Hid (iw (N.take (k+1))=(P.1,P.2++tx)):=by show _=_;rw [HST.out];unfold eH;rw [if_pos (show bq (Nd.mk nm tx XA XK).nm=true from hem)];rfl
     have WS:=hid (BQ (S+1) U (Lib.strCells P.2) tx wN (nJ.out.below BN.out) (by rw [Lib.strCells_length];omega) (by omega) htp);clear hem HST Sk;go_wp2_with fail
     (with_reducible refine WS.out.mono ?_)
     rintro e w2 ⟨rfl,jt1,hb2⟩;have hR2:=bE.out.reU (w':=w2) (by have:=hb2.size;omega) (fun b h1 h2=>(hb2.blk b h2 (by have:=Ga.out;omega)).trans (BN.out.block b (by omega)));obtain ⟨wB2,jt2,hrow2⟩:=hR2;have HF:Hid (EI S w N (.int .i64 ((k+1:Nat):Int)) w2):=by
      refine ⟨k+1,rows,.slice av m cv,U,wB2,by rw [G7.out];omega,rfl,jt2.trans Ga.out,?_,?_,?_,?_⟩
      ·rw [Sl.out];exact hrow2
      ·exact (hb2.blk S (by omega) (by omega)).trans ((BN.out.block S (by omega)).trans qw.out)
      ·rw [Sl.out,EH];exact jt1
      ·exact iV.out.trans ((BN.out.mono hSr).trans (hb2.below (by omega) (by omega)))
     clear jt1 hb2 jt2 hrow2 WS f0 f1 q1 q2;exact gN
    ·have q1:nm.toList.isEmpty=false:=by rw [QM];simpa using hem
     have Sl:Hid (iw (N.take (k+1))=(P.1++bK P.2++[.mk nm tx XA XK],⟨#[]⟩)):=by show _=_;rw [HST.out];unfold eH;rw [if_neg (show ¬ bq (Nd.mk nm tx XA XK).nm=true from hem)]
     have FC:=C8 S U P.2.data.toList P.1 rows (.slice av m cv) wr wN wB (by have:=Ga.out;omega) bE.out qw.out nJ.out BN.out (by rw [Xz.out];omega);rw [EL] at FC;have FL:=hid FC;clear hem HST Sk FC;go_wp2_with fail
     (with_reducible refine FL.out.mono ?_)
     rintro e w3 ⟨rfl,dH,v3,wB3,jm4,hrow3,Pb,XC,xw,hkp3,hb3⟩;obtain ⟨m3,Kt⟩:∃ m,m=(List.map Nd.d (P.1++bK P.2)).length:=⟨_,rfl⟩;have jt3:m3<=m+1:=by
      rw [Kt,jG1,jG0,Xz.out];have:(bK P.2).length<=1:=by unfold bK;split<;>simp
      omega
     obtain ⟨a3,c3,rfl,hc3,jyx⟩:=hrow3.cap Kt.symm;unfold maxLen at jyx;have WH:=hid Kt.symm;have U3:=hid hrow3.drew;have kq3:CB 30 q [.string nm,.string tx,.slice aA nA cA,.slice aK nK cK] w3:=(hkp3 q (by omega) (by have:=ZN.out;omega)).trans HKN.out;have NR3:Hid (Rd (fun b=>wA.heap.size<=b/\b<q) w3 (Nd.mk nm tx XA XK).d [.string nm,.string tx,.slice aA nA cA,.slice aK nK cK]):=
      Nd.dJ nm tx (HND.out.keep (fun b (h1:wA.heap.size<=b) h2=>⟨⟨h1,by rw [HQ.out];exact h2⟩,(hkp3 b (by omega) (by have:=ZN.out;have:=HQ.out;omega)).trans (HN1.out.block b h2)⟩))
     have S0:w3.drew.cell? ⟨S,0,none⟩=some (.slice a3 m3 c3)/\w3.drew.cell? ⟨q,0,none⟩=some (.string nm)/\w3.drew.cell? ⟨q,1,none⟩=some (.string tx)/\w3.drew.cell? ⟨q,2,none⟩=some (.slice aA nA cA)/\w3.drew.cell? ⟨q,3,none⟩=some (.slice aK nK cK):=⟨Pb.cell,kq3.cell 0 _ rfl,kq3.cell 1 _ rfl,kq3.cell 2 _ rfl,kq3.cell 3 _ rfl⟩;have hov:∀ g,(Value.slice a3 m3 c3).ownBlock=some g->S+2<=g/\(g<wr.heap.size\/wN.heap.size<=g):=fun g hg=>⟨by have:=(hrow3.own.lt g hg).1;have:=Ga.out;omega,xw g hg⟩
     have Kj:=hid hov;have jyz:=hid Pb;have jm5:=hid XC;have HB3:=hid hb3;have XE:=hid jm4;have HKQ:=hid kq3;have hz3:=hb3.size;have jz0:S<w3.heap.size:=Pb.lt;clear Kt hrow3 Pb XC hb3 jm4 xw hkp3 kq3 hov FL f0 f1 q1;go_upto_region 11 with (fail)
     refine Jv 7 (fun w'=>w'.cell? ⟨S,0,none⟩=some (.slice a3 m3 c3)/\w'.cell? ⟨q,0,none⟩=some (.string nm)/\w'.cell? ⟨q,1,none⟩=some (.string tx)/\w'.cell? ⟨q,2,none⟩=some (.slice aA nA cA)/\w'.cell? ⟨q,3,none⟩=some (.slice aK nK cK)) (by kernel_rfl) S0 ?_;intro hH;refine fq 0 rfl (by kernel_rfl) hH (by rfl) (by intro wv hSw;(try dsimp only at hSw);go_simp;try with_reducible rfl) ?_;refine fq 1 rfl (by kernel_rfl) hH (by rfl) (by intro wv hSw;(try dsimp only at hSw);go_simp;try with_reducible rfl) ?_;refine fq 2 rfl (by kernel_rfl) hH (by rfl) (by intro wv hSw;(try dsimp only at hSw);go_simp;try with_reducible rfl) ?_;refine bU ?_;refine eF (i:=3) rfl (by kernel_rfl) (fun KQ hK=>?_);go_simp;refine hK.out _ _ (fun _ _=>⟨past S0.1 _,past S0.2.1 _,past S0.2.2.1 _,past S0.2.2.2.1 _,past S0.2.2.2.2 _⟩) (fun hH2=>?_);clear hK KQ hH;refine aN ?_;clear hH2;intro hH;refine bU ?_;refine eF (i:=4) rfl (by kernel_rfl) (fun KQ hK=>?_);refine O9 rfl (.tmp 26) (.tmp 29) 28 rfl iN _ 80 underlying28 qG fF fG fH rfl (by decide) U3.out (fun _=>False.elim) (Nd.mk ⟨#[]⟩ ⟨#[]⟩ [] []).d [.string ⟨#[]⟩,.string ⟨#[]⟩,.slice none 0 0,.slice none 0 0] (Nd.dJ ⟨#[]⟩ ⟨#[]⟩ ⟨Rd.aD _ _ _,Rd.aD _ _ _⟩) rfl F9 WH.out (by omega) (by decide) rfl rfl ?_;intro g5 c5 w5 bC hg5 Sm QL;have hgS:S+2<=g5/\g5≠q/\(g5<wr.heap.size\/wN.heap.size<=g5):=by
      have hz9:w3.drew.heap.size=w3.heap.size:=rfl;rcases Sm with h | h
      ·have:=Kj.out g5 h;have:=ZN.out;omega
      ·have:=ZN.out;omega
     have hnv:∀ b,b=S\/b=q->some b≠(Value.slice a3 m3 c3).ownBlock:=fun b hb e=>by
      have:=Kj.out b e.symm;have:=ZN.out;omega
     have S5:w5.cell? ⟨S,0,none⟩=some (.slice a3 m3 c3)/\w5.cell? ⟨q,0,none⟩=some (.string nm)/\w5.cell? ⟨q,1,none⟩=some (.string tx)/\w5.cell? ⟨q,2,none⟩=some (.slice aA nA cA)/\w5.cell? ⟨q,3,none⟩=some (.slice aK nK cK):=⟨(World.grownBy.cell_far hg5 ⟨S,0,none⟩ (by simp;omega) (hnv S (.inl rfl))).trans (past S0.1 _),(World.grownBy.cell_far hg5 ⟨q,0,none⟩ (by simp;have:=ZN.out;omega) (hnv q (.inr rfl))).trans (past S0.2.1 _),(World.grownBy.cell_far hg5 ⟨q,1,none⟩ (by simp;have:=ZN.out;omega) (hnv q (.inr rfl))).trans (past S0.2.2.1 _),(World.grownBy.cell_far hg5 ⟨q,2,none⟩ (by simp;have:=ZN.out;omega) (hnv q (.inr rfl))).trans (past S0.2.2.2.1 _),(World.grownBy.cell_far hg5 ⟨q,3,none⟩ (by simp;have:=ZN.out;omega) (hnv q (.inr rfl))).trans (past S0.2.2.2.2 _)⟩;obtain ⟨y0,y1,y2,y3,yf⟩:=bC.C9 WH.out;have t0:(0:Int)<=(m3:Int):=by omega
     have t1:(m3:Int)<((m3+1:Nat):Int):=by omega
     have t2:(m3:Int)<(m3:Int)+1:=by omega
     have t3:m3<m3+1:=by omega
     have U5:=hid bC;have HG5:=hid hg5;have hz5:w3.heap.size+1<=w5.heap.size:=by have:=hg5.size;simp at this;exact this
     have hSg:S≠g5:=by omega
     have hqg:q≠g5:=fun e=>hgS.2.1 e.symm
     have XF:aJ S (.slice a3 m3 c3) 28 w5:=(hg5.block S (by simp;omega) (hnv S (.inl rfl))).trans ((jG5 w3 _ S jz0).trans jyz.out);have zf5:=XF.free;have z5:=XF.cell;obtain ⟨wZ,hzZ,G9⟩:=bC.hop2 (p:=S) (by have:=XE.out;have:=Ga.out;omega) (show w5.grownBy (w5.setCell ⟨S,0,none⟩ (.slice (some ⟨g5,0,none⟩) (m3+1) c5)) (some S) from ⟨rfl,rfl,rfl,by simp [jH4],fun b _ hb=>jG4 w5 ⟨S,0,none⟩ _ b (fun e=>hb (by rw [e]))⟩);obtain ⟨u0,u1,u2,u3,uf⟩:=G9.C9 WH.out;have BX5:=hid XF;clear G9 hzZ XF bC hg5 Sm hnv S0;refine hK.out _ _ (fun _ _=>S5) (fun hH2=>?_);clear hK KQ hH;refine aN ?_;clear hH2;intro hH;refine bU ?_;apply jt4;case hm=>
      intro REST;refine MZ (i:=5) (j:=7) rfl rfl (by kernel_rfl) (fun KQ hK=>?_) (fun KQ hK=>?_);rotate_left
      ·refine nX ?_;clear hK KQ;refine bU ?_;refine zh ?_;intro KQ hK;refine M6 ?_;clear hK KQ;refine bU ?_;refine mP ?_;intro KQ hK;refine M6 ?_;clear hK KQ;refine bU ?_;exact ja7
      go_simp;refine hK.out _ _ (fun _ _=>S5) (fun hH2=>?_);clear hK KQ;have hH:=hH2 (by decide) (by kernel_rfl);clear hH2;refine bU ?_;refine MZ (i:=6) (j:=7) rfl rfl (by kernel_rfl) (fun KQ hK=>?_) (fun KQ hK=>?_)
      ·go_simp;have S6:jH3 ((((w5.setCell ⟨g5,m3*4,none⟩ (.string nm)).setCell ⟨g5,m3*4+1,none⟩ (.string tx)).setCell ⟨g5,m3*4+2,none⟩ (.slice aA nA cA)).setCell ⟨g5,m3*4+3,none⟩ (.slice aK nK cK)) ⟨S,0,none⟩=some (.slice a3 m3 c3)/\jH3 ((((w5.setCell ⟨g5,m3*4,none⟩ (.string nm)).setCell ⟨g5,m3*4+1,none⟩ (.string tx)).setCell ⟨g5,m3*4+2,none⟩ (.slice aA nA cA)).setCell ⟨g5,m3*4+3,none⟩ (.slice aK nK cK)) ⟨q,0,none⟩=some (.string nm)/\jH3 ((((w5.setCell ⟨g5,m3*4,none⟩ (.string nm)).setCell ⟨g5,m3*4+1,none⟩ (.string tx)).setCell ⟨g5,m3*4+2,none⟩ (.slice aA nA cA)).setCell ⟨g5,m3*4+3,none⟩ (.slice aK nK cK)) ⟨q,1,none⟩=some (.string tx)/\jH3 ((((w5.setCell ⟨g5,m3*4,none⟩ (.string nm)).setCell ⟨g5,m3*4+1,none⟩ (.string tx)).setCell ⟨g5,m3*4+2,none⟩ (.slice aA nA cA)).setCell ⟨g5,m3*4+3,none⟩ (.slice aK nK cK)) ⟨q,2,none⟩=some (.slice aA nA cA)/\jH3 ((((w5.setCell ⟨g5,m3*4,none⟩ (.string nm)).setCell ⟨g5,m3*4+1,none⟩ (.string tx)).setCell ⟨g5,m3*4+2,none⟩ (.slice aA nA cA)).setCell ⟨g5,m3*4+3,none⟩ (.slice aK nK cK)) ⟨q,3,none⟩=some (.slice aK nK cK):=show jH3 (sO w5 g5 (m3*4) (.string nm) (.string tx) (.slice aA nA cA) (.slice aK nK cK)) ⟨S,0,none⟩=some (.slice a3 m3 c3)/\jH3 (sO w5 g5 (m3*4) (.string nm) (.string tx) (.slice aA nA cA) (.slice aK nK cK)) ⟨q,0,none⟩=some (.string nm)/\jH3 (sO w5 g5 (m3*4) (.string nm) (.string tx) (.slice aA nA cA) (.slice aK nK cK)) ⟨q,1,none⟩=some (.string tx)/\jH3 (sO w5 g5 (m3*4) (.string nm) (.string tx) (.slice aA nA cA) (.slice aK nK cK)) ⟨q,2,none⟩=some (.slice aA nA cA)/\jH3 (sO w5 g5 (m3*4) (.string nm) (.string tx) (.slice aA nA cA) (.slice aK nK cK)) ⟨q,3,none⟩=some (.slice aK nK cK) from ⟨q32 S5.1 hSg,q32 S5.2.1 hqg,q32 S5.2.2.1 hqg,q32 S5.2.2.2.1 hqg,q32 S5.2.2.2.2 hqg⟩
       have z6:=S6.1;have bx6:aJ S (.slice a3 m3 c3) 28 ((((w5.setCell ⟨g5,m3*4,none⟩ (.string nm)).setCell ⟨g5,m3*4+1,none⟩ (.string tx)).setCell ⟨g5,m3*4+2,none⟩ (.slice aA nA cA)).setCell ⟨g5,m3*4+3,none⟩ (.slice aK nK cK)):=(iG w5 g5 (m3*4) (.string nm) (.string tx) (.slice aA nA cA) (.slice aK nK cK) S hSg).trans BX5.out;have zf:=bx6.free;refine hK.out _ _ (fun _ _=>S6) (fun hH2=>?_);clear hK KQ hH;refine aN ?_;clear hH2;intro hH;refine bU ?_;refine eF (i:=7) rfl (by kernel_rfl) (fun KQ hK=>?_);refine nX ?_;clear hK KQ hH;refine bU ?_;refine OQ (by kernel_rfl) ?_ _;clear S6 z6 bx6 zf;exact REST
      ·refine nX ?_;clear hK KQ hH;refine bU ?_;refine mP ?_;intro KQ hK;refine M6 ?_;clear hK KQ;refine bU ?_;exact ja7
     case hr=>
      clear S5 y0 y1 y2 y3 yf u0 u1 u2 u3 uf zf5 z5 t0 t1 t2 t3;have hr6:=U5.out.ja5 WH.out (.string nm) (.string tx) (.slice aA nA cA) (.slice aK nK cK) (d1:=(Nd.mk nm tx XA XK).d) (Rd.keep (fun b hb hlt=>⟨⟨.inr (by have:=XE.out;have:=Ga.out;omega),(fun e=>by subst e;have:=ZN.out;omega),by omega⟩,(HG5.out.block b (by simp;omega) (fun e=>by have:=Kj.out b e.symm;have:=ZN.out;omega)).trans (jG5 w3 _ b hlt)⟩) _ _ NR3.out);obtain ⟨w6,pG⟩:∃ w6,w6=sO w5 g5 (m3*4) (.string nm) (.string tx) (.slice aA nA cA) (.slice aK nK cK):=⟨_,rfl⟩;have hb6:∀ b,b≠g5->w6.heap[b]?=w5.heap[b]?:=fun b hb=>by rw [pG];exact iG _ _ _ _ _ _ _ b hb
      have jt5:aJ S (.slice a3 m3 c3) 28 w6:=(hb6 S hSg).trans BX5.out;rw [<- pG] at hr6;have jm6:=pG;simp only [sO] at jm6;rw [<- jm6];clear jm6;have hz6:w6.heap.size=w5.heap.size:=by rw [pG];simp [sO,jH4]
      obtain ⟨w7,hw7⟩:∃ w7,w7=w6.setCell ⟨S,0,none⟩ (.slice (some ⟨g5,0,none⟩) (m3+1) c5):=⟨_,rfl⟩;rw [<- hw7];have bx7:aJ S (.slice (some ⟨g5,0,none⟩) (m3+1) c5) 28 w7:=by rw [hw7];exact jt5.set _
      have g7:w6.grownBy w7 (some S):=by rw [hw7];exact ⟨rfl,rfl,rfl,by simp [jH4],fun b _ hb=>jG4 w6 ⟨S,0,none⟩ _ b (fun e=>hb (by rw [e]))⟩
      have hz7:w7.heap.size=w6.heap.size:=by rw [hw7];simp [jH4]
      obtain ⟨wB7,hB7,M8⟩:=hr6.hop2 (p:=S) (by have:=XE.out;have:=Ga.out;omega) g7;have QN:∀ b,b<w3.heap.size->b≠S->b≠g5->(∀ g,(Value.slice a3 m3 c3).ownBlock=some g->b≠g)->w7.heap[b]?=w3.heap[b]?:=fun b h1 h2 h3 h4=>
       (g7.block b (by omega) (fun e=>h2 (jG3 e))).trans ((hb6 b h3).trans ((HG5.out.block b (by simp;omega) (fun e=>h4 b e.symm rfl)).trans (jG5 w3 _ b h1)))
      have hr7:aG 30 4 (fun _=>False) w7.heap.size wB7 ((iw (N.take (k+1))).1.map Nd.d) (dH++[[.string nm,.string tx,.slice aA nA cA,.slice aK nK cK]]) (.slice (some ⟨g5,0,none⟩) (m3+1) c5) w7:=by rw [Sl.out];show aG _ _ _ _ _ (List.map Nd.d (P.1++bK P.2++[.mk nm tx XA XK])) _ _ _;rw [jGk];exact M8.up (by omega) (jFk _)
      have HF:Hid (EI S w N (.int .i64 ((k+1:Nat):Int)) w7):=by
       refine ⟨k+1,_,.slice (some ⟨g5,0,none⟩) (m3+1) c5,w7.heap.size,wB7,by rw [G7.out];omega,rfl,hB7.trans (XE.out.trans Ga.out),hr7,bx7,?_,?_⟩
       ·rw [Sl.out];exact jm5.out.Xy (QN (S+1) (by have:=jm5.out.lt;exact this) (by omega) (by omega) (fun g hg=>by have:=(Kj.out g hg).1;omega)) (by have:=jm5.out.lt;omega)
       ·refine iV.out.trans ((BN.out.mono hSr).trans (HB3.out.trans ⟨?_,?_,?_,by omega,fun b hb=>QN b (by omega) (by omega) (by omega) (fun g hg=>by have:=(Kj.out g hg).1;omega)⟩))
        ·rw [hw7,pG];exact HG5.out.os
        ·rw [hw7,pG];exact HG5.out.tape
        ·rw [hw7,pG];exact HG5.out.output
      clear hr6 hr7 M8 hB7 g7 bx7 hw7 jt5 pG hb6 QN;exact gN
   ·have hkl:k=l.length:=by omega
    subst hkl;have hPN:P=iw N:=by rw [HP.out,jGx (by rw [G7.out];exact jFk _)]
    have FC:=C8 S U P.2.data.toList P.1 rows (.slice av m cv) wr wr wB (by have:=Ga.out;omega) bE.out qw.out nJ.out (jFj _ _) (by rw [Xz.out];omega);rw [EL,hPN,<- oh.out] at FC;have FL:=hid FC;clear FC;go_wp2_with fail
    (with_reducible refine FL.out.mono ?_)
    rintro e w3 ⟨rfl,dH,v3,wB3,jm4,hrow3,Pb,XC,xw,hkp3,hb3⟩;have x0:=Pb.cell;have HF:Hid (aQ w (dV l) (.returned v3) w3):=by
     refine ⟨dH,v3,rfl,hrow3.l7 ?_ ?_⟩
     ·have:=Sj.out;have:=Ga.out;omega
     ·rw [<- Sj.out];exact hbel.trans hb3
    clear hrow3 XC hb3 xw hkp3 FL;go_wp2;go_ret;exact HF.out
open Go.RowKit
theorem lY (n:ByteArray) (a1 a2:Option Addr) (n1 n2 c1 c2:Nat) (w:jIq) : Calls prog 48 #[.string n,.slice a1 n1 c1,.slice a2 n2 c2] w fun e w'=>e=.returned (.agg #[.string n,.string ⟨#[]⟩,.slice a1 n1 c1,.slice a2 n2 c2])/\Below w.heap.size w w':=by go_enter func48,ntmps48;go_wp2;exact bodyPost_ret (v:=.agg #[.string n,.string ⟨#[]⟩,.slice a1 n1 c1,.slice a2 n2 c2]) (by simp [results,results48,go_sem]) rfl ⟨rfl,(jFj _ _).alloc (jFk _) _⟩
theorem WI (s:ByteArray) (w:jIq):Calls prog 50 #[.string s] w (aQ w (bK s)):=by
 by_cases hs:bq s=true
 ·have q1:s.toList.isEmpty=true:=by rw [QM];exact hs
  have E:Hid (bK s=[]):=by show _=_;unfold bK;rw [if_pos hs]
  clear hs;go_enter func50,ntmps50;go_wp2;go_ret;rw [E.out];exact aQ.nil w w (jFj _ _)
 ·have q1:s.toList.isEmpty=false:=by rw [QM];simpa using hs
  have E:Hid (bK s=[Da s]):=by show _=_;unfold bK;rw [if_neg hs]
  clear hs;go_enter func50,ntmps50;go_wp2;go_ret;rw [E.out];exact ⟨_,_,rfl,aG.one (r:=[.string ⟨#[]⟩,.string s,.slice none 0 0,.slice none 0 0]) rfl (Nd.dJ ⟨#[]⟩ s ⟨Rd.aD _ _ _,Rd.aD _ _ _⟩)⟩
theorem q24 (k s:ByteArray) (w:jIq):Calls prog 49 #[.string k,.string s] w (aW w (cO k s)):=by
 by_cases hs:bq s=true
 ·have q1:s.toList.isEmpty=true:=by rw [QM];exact hs
  have E:Hid (cO k s=[]):=by show _=_;unfold cO;rw [if_pos hs]
  clear hs;go_enter func49,ntmps49;go_wp2;go_ret;rw [E.out];exact aW.nil w w (jFj _ _)
 ·have q1:s.toList.isEmpty=false:=by rw [QM];simpa using hs
  have E:Hid (cO k s=[⟨k,s⟩]):=by show _=_;unfold cO;rw [if_neg hs]
  clear hs;go_enter func49,ntmps49;go_wp2;go_ret;rw [E.out];exact ⟨_,_,rfl,aG.one (r:=[.string k,.string s]) rfl (Pr.dJ _ _ ⟨k,s⟩)⟩
theorem Db (m:ByteArray) (l:List ByteArray) (k:Nat) (x:ByteArray) (h:l[k]?=some x):lF m (l.take (k+1))=(if bq (lF m (l.take k))=true then lF m (l.take k) else lF m (l.take k)++Kk)++x:=by unfold lF;rw [List.take_add_one,h,List.foldl_append];rfl
theorem He (m:ByteArray):∀ (l:List ByteArray) (n:Nat),(∀ x∈l,x.size<=n)->∀ k,(lF m (l.take k)).size<=m.size+k*(n+1)
 | l,n,h,0=>by simp [lF]
 | l,n,h,k+1=>by
  have ih:=He m l n h k;by_cases hk:k<l.length
  ·rw [Db m l k l[k] (jF9 hk)];have hx:=h l[k] (List.getElem_mem hk);have e:Kk.size=1:=rfl;split
   ·rw [ByteArray.size_append,Nat.add_mul];omega
   ·rw [ByteArray.size_append,ByteArray.size_append,Nat.add_mul];omega
  ·rw [jGx (by omega)];rw [jGx (by omega)] at ih;rw [Nat.add_mul];omega
def jak (m:ByteArray) (l:List ByteArray) (vc vi:jIz):Prop:=∃ k:Nat,k<=l.length/\vi=.int .i64 k/\vc=.string (lF m (l.take k))
theorem jaq{P:Prop}(h:P:=by
 go_wp2
 go_round
 case rel=>exact ⟨k+1,by have:=HN.out;omega,by go_num,by rw [HX2.out]⟩
 case measure=>simp [intOf];omega):P:=h
theorem jF (a:At) (m:ByteArray) (vc vp:jIz) (w:jIq) (hR:AtR (·<w.heap.size) w a vc vp) (hl:a.cls.length<=100) (hc:∀ c∈a.cls,c.size<=1000) (hm:m.size<=1000) (hne:∀ c∈a.cls,bq c=false) : Calls prog 107 #[.agg #[.string a.id,vc,vp],.string m] w (aW w (eX a (if bq m=true then [] else [m]))):=by
 obtain ⟨iP,hiP,qy,qz,qA⟩:=info_parts kT;obtain ⟨A,cap,hv,hs⟩:=Rd.ay hR.cls;obtain ⟨n,hn⟩:∃ n,n=a.cls.length:=⟨_,rfl⟩;obtain rfl:vc=.slice A n cap:=by rw [hn];simpa using hv
 have hcap:n<=cap:=by have:=hs.le;rw [jG1] at this;omega
 have hmx:=hs.max;unfold maxLen at hmx;obtain ⟨ap,np,cp,rfl⟩:=Rd.au hR.aF;have hn1:n<=100:=by omega
 have HB:=hid (He m a.cls 1000 hc);obtain ⟨mo,hmo⟩:∃ mo,mo=(if bq m=true then [] else [m]):=⟨_,rfl⟩;have hE:=Sn a m hne;rw [<- hmo] at hE ⊢;have HE:=hid hE;clear hE hmo;have HSA:=hid hs;have HC:=hid hc;have HN:=hid hn;obtain ⟨S,hS⟩:∃ S,S=w.heap.size:=⟨_,rfl⟩;obtain ⟨W1,hW1⟩:∃ W,W=w.alloc (.cells #[.string a.id,.slice A n cap,.slice ap np cp] 43):=⟨_,rfl⟩;have k1:CB 43 S [.string a.id,.slice A n cap,.slice ap np cp] W1:=by rw [hW1,hS];exact CB.new _ _ w
 have b1:Below w.heap.size w W1:=by rw [hW1];exact (jFj _ _).alloc (jFk _) _
 have e0:=k1.cell 0 _ rfl;have e1:=k1.cell 1 _ rfl;have R0:Hid (jak m a.cls (.string m) (.int .i64 0)):=⟨0,Nat.zero_le _,rfl,by rw [List.take_zero];rfl⟩;have HS:=hid hS;have HW1:=hid hW1;have B1:=hid b1;clear hR hl hc hne hv hs hn hS hW1 k1 b1;go_enter func107,ntmps107;go_upto_region 2 with (fail)
 rw [<- HS.out,<- HW1.out];go_wp2
 go_loop [5,6] (fun v i=>jak m a.cls v i) (fun _ i=>n-(intOf i).toNat)
 case atStart=>exact R0.out
 case round=>
  clear R0;obtain ⟨k,hk,rfl,rfl⟩:=hrel;obtain ⟨c,hcE⟩:∃ c,c=lF m (a.cls.take k):=⟨_,rfl⟩;have hcs:c.size<=200000:=by have h:=HB.out k;rw [<- hcE] at h;have:k*1001<=100*1001:=Nat.mul_le_mul_right _ (by have:=HN.out;omega);omega
  rw [<- hcE];have HCE:=hid hcE;clear hcE;by_cases hlt:k<n
  ·have hlt2:k<a.cls.length:=by have:=HN.out;omega
   obtain ⟨x,hx⟩:∃ x,a.cls[k]?=some x:=⟨_,jF9 hlt2⟩;obtain ⟨b,off,rfl,-,hbl,hcx⟩:=jk HSA.out hx;have e2:W1.cell? ⟨b,off+k,none⟩=some (.string x):=(B1.out.cell (p:=⟨b,off+k,none⟩) hbl).trans hcx;have hxs:=HC.out x (jG7 hx);have HX:=hid (Db m a.cls k x hx);rw [<- HCE.out] at HX;have qe:=QM c;clear hcx hx;by_cases hem:bq c=true
   ·have q1:c.toList.isEmpty=true:=by rw [qe];exact hem
    have q3:c.size+x.size<=9223372036854775807:=by omega
    have HX2:Hid (lF m (a.cls.take (k+1))=c++x):=by show _=_;rw [HX.out,if_pos hem]
    clear hem qe;go_wp2
    go_round
    case rel=>exact ⟨k+1,by have:=HN.out;omega,by go_num,by rw [HX2.out]⟩
    case measure=>simp [intOf];omega
   ·have q1:c.toList.isEmpty=false:=by rw [qe];simpa using hem
    have q3:c.size+(⟨#[32]⟩:ByteArray).size<=9223372036854775807:=by have:(⟨#[32]⟩:ByteArray).size=1:=rfl;omega
    have q4:(c++(⟨#[32]⟩:ByteArray)).size+x.size<=9223372036854775807:=by rw [ByteArray.size_append];have:(⟨#[32]⟩:ByteArray).size=1:=rfl;omega
    have HX2:Hid (lF m (a.cls.take (k+1))=c++⟨#[32]⟩++x):=by show _=_;rw [HX.out,if_neg hem];rfl
    have q5:c.size+1<=9223372036854775807:=by omega
    have q6:c.size+1+x.size<=9223372036854775807:=by omega
    have a1:∀ w:jIq,(Op.stringOp .add c (⟨#[32]⟩:ByteArray)).run prog w=.ok (.string (c++⟨#[32]⟩)) w:=fun w=>run_string_add_sum w _ _ q3
    have a2:∀ w:jIq,(Op.stringOp .add (c++(⟨#[32]⟩:ByteArray)) x).run prog w=.ok (.string (c++⟨#[32]⟩++x)) w:=fun w=>run_string_add_sum w _ _ q4
    clear hem qe q3 q4 q5 q6;go_wp2
    go_round
    case rel=>exact ⟨k+1,by have:=HN.out;omega,by go_num,by rw [HX2.out]⟩
    case measure=>simp [intOf];omega
  ·have hkl:k=a.cls.length:=by have:=HN.out;omega
   have jt6:c=lF m a.cls:=by rw [HCE.out,hkl,List.take_length]
   have jz2:=hid jt6;have S1:Hid (Calls prog 49 #[.string ⟨#[105,100]⟩,.string a.id] W1 (aW W1 (cO jX a.id))):=q24 jX a.id W1;have jD2:¬ (k<n):=hlt;clear hkl jt6;go_wp2_with fail
   (with_reducible refine S1.out.mono ?_)
   rintro e w2 ⟨bD,v2,rfl,hrow2⟩;obtain ⟨m2,hm2⟩:∃ m,m=(List.map Pr.d (cO jX a.id)).length:=⟨_,rfl⟩;obtain ⟨a2,c2,rfl,-,-⟩:=hrow2.cap hm2.symm;have jyj:m2<=1:=by rw [hm2];unfold cO;split<;>simp
   have HM2:=hid hm2.symm;have S2:Hid (Calls prog 49 #[.string ⟨#[99,108,97,115,115]⟩,.string c] w2 (aW w2 (cO dD c))):=q24 dD c w2;have U2:=hid hrow2;clear hrow2 hm2 S1 e0 e1;go_wp2_with fail
   (with_reducible refine S2.out.mono ?_)
   rintro e w3 ⟨dH,v3,rfl,hrow3⟩;obtain ⟨m3,Kt⟩:∃ m,m=(List.map Pr.d (cO dD c)).length:=⟨_,rfl⟩;obtain ⟨a3,c3,rfl,-,-⟩:=hrow3.cap Kt.symm;have jt3:m3<=1:=by rw [Kt];unfold cO;split<;>simp
   have WH:=hid Kt.symm;have b3:=hrow3.aO;have U3:=hid (U2.out.below b3);have X3:=hid (show Rd (fun b=>False\/w2.heap.size<=b) w3 (.sl 2 (List.map Pr.d (cO dD c))) [.slice a3 m3 c3] from hrow3.cu.weaken (fun b hb=>.inr hb));have O1:=hid (fun (rs:List (List jIz)) (ok':Nat->Prop) h=>lG (cO dD c) rs ok' w3 h);clear hrow3 Kt b3 S2;go_wp2_with (at_builtin;refine iT (n:=m2) (m:=m3) rfl _ _ 22 rfl iP _ 32 underlying22 hiP qy qz qA rfl (by decide) U3.out (fun _=>False.elim) (.slice a3 m3 c3) X3.out O1.out HM2.out WH.out (by omega) (by decide) rfl rfl ?_)
   intro a5 c5 nZ w5 bC hg5;have HF:Hid (aW w (eX a mo) (.returned (.slice a5 (m2+m3) c5)) w5):=by have h:=bC.l7 (wb:=w) (B1.out.size) (B1.out.trans (bC.aO.mono B1.out.size));rw [<- jGk,jz2.out,HE.out] at h;exact ⟨nZ,_,rfl,h⟩
   clear bC hg5 U3 X3 O1;go_wp2;go_ret;exact HF.out
open Go.RowKit
theorem l9 (l:List Nd) (k:Nat) (x:Nd) (h:l[k]?=some x):BS (l.take (k+1))=jG (BS (l.take k)) x:=by unfold BS;rw [List.take_add_one,h,List.foldl_append];rfl
theorem Pf (out:List Nd) (x:Nd):(jG out x).length<=out.length+1:=by
 unfold jG;split
 ·split
  ·split
   ·rw [jG0,List.length_dropLast,List.length_singleton];omega
   ·simp
  ·simp
 ·simp
theorem zi (l:List Nd):∀ k,(BS (l.take k)).length<=k
 | 0=>by simp [BS]
 | k+1=>by
  have ih:=zi l k;by_cases hk:k<l.length
  ·rw [l9 l k l[k] (jF9 hk)];have:=Pf (BS (l.take k)) l[k];omega
  ·rw [jGx (by omega)];rw [jGx (by omega)] at ih;omega
theorem Sq (out:List Nd) (x:Nd) (n:Nat) (h:∀ y∈out,y.tx.size<=n) (hx:x.tx.size<=300):∀ y∈jG out x,y.tx.size<=n+300:=by
 have h0:∀ y∈out++[x],y.tx.size<=n+300:=by
  intro y hy;rcases List.mem_append.1 hy with hy | hy
  ·have:=h y hy;omega
  ·simp at hy;subst hy;omega
 unfold jG;split
 ·cases hg:out.getLast? with
  | none=>exact h0
  | some z=>
   simp only;split
   ·intro y hy;rcases List.mem_append.1 hy with hy | hy
    ·have:=h y (List.dropLast_subset _ hy);omega
    ·simp at hy;subst hy;have:=h z (List.mem_of_getLast? hg);show (z.tx++x.tx).size<=_;rw [ByteArray.size_append];omega
   ·exact h0
 ·exact h0
theorem Dc (l:List Nd) (hl:∀ x∈l,x.tx.size<=300):∀ k,∀ y∈BS (l.take k),y.tx.size<=300*k
 | 0=>by simp [BS]
 | k+1=>by
  have ih:=Dc l hl k;by_cases hk:k<l.length
  ·rw [l9 l k l[k] (jF9 hk)];intro y hy;have:=Sq _ l[k] (300*k) ih (hl _ (List.getElem_mem hk)) y hy;omega
  ·rw [jGx (by omega)];rw [jGx (by omega)] at ih;intro y hy;have:=ih y hy;omega
theorem aU.init {P:Nat->Prop} {w:jIq}:∀ (ds:List D) (rows:List (List jIz)) (d0:D) (r0:List jIz),aU P w (ds++[d0]) (rows++[r0])->rows.length=ds.length->aU P w ds rows/\Rd P w d0 r0
 | [],rows,d0,r0,hr,hl=>by
  rw [List.eq_nil_of_length_eq_zero hl] at hr ⊢;obtain ⟨r,rs,e,h1,h2⟩:=hr.aM;have e1:r=r0:=by simp at e;exact e.1.symm
  subst e1;exact ⟨aU.none,h1⟩
 | x::ds,[],d0,r0,hr,hl=>by simp at hl
 | x::ds,r::rows,d0,r0,hr,hl=>by
  obtain ⟨r',rs,e,h1,h2⟩:=hr.aM;have e':r'=r/\rs=rows++[r0]:=by simp at e;exact ⟨e.1.symm,e.2.symm⟩
  obtain ⟨rfl,rfl⟩:=e';obtain ⟨h3,h4⟩:=aU.init ds rows d0 r0 h2 (by simpa using hl);exact ⟨aU.cons h1 h3,h4⟩
section
variable {T:TypeId} {U:Nat} {ok:Nat->Prop} {w0 w:jIq} {ds:List D} {rows:List (List jIz)} {v:jIz}
theorem aG.uS {d:D} (h:aG T 4 ok U w0 (ds++[d]) rows v w):∃ rows' a0 a1 a2 a3,rows=rows'++[[a0,a1,a2,a3]]/\Rd (fun b=>(ok b\/w0.heap.size<=b)/\v.ownBlock≠some b/\b<U) w d [a0,a1,a2,a3]:=by
 have hl:=h.red.len;rw [jG0,List.length_singleton] at hl;have hne:rows≠[]:=fun e=>by rw [e] at hl;simp at hl
 obtain ⟨rows',r,rfl⟩:∃ rows' r,rows=rows'++[r]:=⟨_,_,(List.dropLast_concat_getLast hne).symm⟩;have hr:=h.len r (by simp)
 match r,hr with
 | [a0,a1,a2,a3],_=>exact ⟨rows',a0,a1,a2,a3,rfl,(aU.init ds rows' d _ h.red (by simp at hl;exact hl)).2⟩
theorem aG.set1 {g n c j:Nat} {d0 d1:D} {r0:List jIz} {u:jIz} (h:aG T 4 ok U w0 (ds++[d0]) (rows++[r0]) (.slice (some ⟨g,0,none⟩) (n+1) c) w) (hn:ds.length=n) (hj:j<4) (hd:Rd (fun b=>(ok b\/w0.heap.size<=b)/\g≠b/\b<U) w d1 (r0.set j u)):aG T 4 ok U w0 (ds++[d1]) (rows++[r0.set j u]) (.slice (some ⟨g,0,none⟩) (n+1) c) (w.setCell ⟨g,n*4+j,none⟩ u):=by
 have hl:rows.length=n:=by have:=h.red.len;simp at this;omega
 have hfl:rows.flatten.length=n*4:=by rw [lg 4 rows (fun r hr=>h.len r (by simp [hr])),hl]
 have hown:=h.own;have e1:∀ r:List jIz,(rows++[r]).flatten=rows.flatten++r:=fun r=>by simp
 rw [e1,jG0,List.length_singleton,hn] at hown;have o4:=(hown.stored (n*4+j) u).1;rw [List.set_append_right _ _ (by omega),hfl,Nat.add_sub_cancel_left] at o4;have hb:∀ b,b≠g->(w.setCell ⟨g,n*4+j,none⟩ u).heap[b]?=w.heap[b]?:=fun b hb=>jG4 w ⟨g,n*4+j,none⟩ u b hb
 have hg0:w0.heap.size<=g:=(h.own.lt g rfl).1;refine ⟨?_,?_,?_,?_,h.oU,h.GK,by simpa [jH4] using h.J6⟩
 ·rw [e1,jG0,List.length_singleton,hn];exact o4
 ·have hA:=(aU.init ds rows d0 r0 h.red (by omega)).1;exact aU.app (aU.keep (fun b hb' _=>⟨hb',hb b (fun e=>by subst e;exact hb'.2.1 rfl)⟩) _ _ hA) (aU.one (Rd.keep (fun b hb' _=>⟨⟨hb'.1,fun e=>hb'.2.1 (by simpa [Value.ownBlock] using e),hb'.2.2⟩,hb b (fun e=>hb'.2.1 e.symm)⟩) _ _ hd))
 ·intro r hr;rcases List.mem_append.1 hr with hr | hr
  ·exact h.len r (by simp [hr])
  ·simp at hr;subst hr;rw [List.length_set];exact h.len r0 (by simp)
 ·exact h.aO.setCell (p:=⟨g,n*4+j,none⟩) hg0 u
end
def vW (m0:Nat) (w:jIq) (L:List Nd) (v vi:jIz) (wr:jIq):Prop:=
 ∃ (k:Nat) (rows:List (List jIz)),k<=L.length/\vi=.int .i64 k/\aG 30 4 (fun b=>m0<=b/\b<w.heap.size) wr.heap.size w ((BS (L.take k)).map Nd.d) rows v wr
def Sr (m0:Nat) (w:jIq) (L:List Nd) (e:Ending) (w':jIq):Prop:=
 ∃ rows v,e=.returned v/\aG 30 4 (fun b=>m0<=b/\b<w.heap.size) w'.heap.size w ((BS L).map Nd.d) rows v w'
theorem jax{P Q:Prop}(q:Q)(h:Nonempty Q->P:=by
 intro qQ;refine BO 0 rfl (by kernel_rfl) hH (by rfl) (by intro wv hSw;(try dsimp only at hSw);go_simp;try with_reducible rfl) ?_;refine BO 1 rfl (by kernel_rfl) hH (by rfl) (by intro wv hSw;(try dsimp only at hSw);go_simp;try with_reducible rfl) ?_;refine BO 2 rfl (by kernel_rfl) hH (by rfl) (by intro wv hSw;(try dsimp only at hSw);go_simp;try with_reducible rfl) ?_;refine BO 3 rfl (by kernel_rfl) hH (by rfl) (by intro wv hSw;(try dsimp only at hSw);go_simp;try with_reducible rfl) ?_;refine BO 4 rfl (by kernel_rfl) hH (by rfl) (by intro wv hSw;(try dsimp only at hSw);go_simp;try with_reducible rfl) ?_;refine BO 5 rfl (by kernel_rfl) hH (by rfl) (by intro wv hSw;(try dsimp only at hSw);go_simp;try with_reducible rfl) ?_;exact qQ.elim fun x=>x):P:=h ⟨q⟩
theorem Hf{P:Prop}(h:P:=by
 rw [<- HJ.out] at bC;exact ⟨k+1,_,by omega,rfl,bC⟩):P:=h
theorem Hg (m0:Nat) (L:List Nd) (v:jIz) (w:jIq) (hrd:Rd (m0<=·) w (gH L) [v]) (hL:L.length<=1000000) (hx3:∀ x∈L,x.tx.size<=300) : Calls prog 139 #[v] w (Sr m0 w L):=by
 obtain ⟨iN,qG,fF,fG,fH⟩:=info_parts iE;obtain ⟨a,cap,hv,hs⟩:=Rd.ay hrd;obtain rfl:v=.slice a L.length cap:=by simpa using hv
 have hcap:L.length<=cap:=by simpa using hs.le
 have hmx:=hs.max;unfold maxLen at hmx;have HS:=hid hs;have HX3:=hid hx3;have R0:Hid (vW m0 w L (.slice none 0 0) (.int .i64 0) w):=⟨0,[],Nat.zero_le _,rfl,aG.nil _ _ _ _⟩;clear hs hv hrd hx3;go_enter func139,ntmps139;go_wp2
 go_loopw [3,4] (fun v vi wr=>vW m0 w L v vi wr) (fun _ i _=>L.length-(intOf i).toNat)
 case atStart=>exact R0.out
 case round=>
  clear R0;obtain ⟨k,rows,hk,rfl,hrow⟩:=hrel;obtain ⟨Out,hOut⟩:∃ Out,Out=BS (L.take k):=⟨_,rfl⟩;have hol:Out.length<=k:=by rw [hOut];exact zi L k
  have hot:∀ y∈Out,y.tx.size<=300*k:=by rw [hOut];exact Dc L HX3.out k
  rw [<- hOut] at hrow;have hbel:=hrow.aO;by_cases hlt:k<L.length
  ·obtain ⟨x,hx⟩:∃ x,L[k]?=some x:=⟨_,jF9 hlt⟩;have hst:=l9 L k x hx;rw [<- hOut] at hst;have hxt:=HX3.out x (jG7 hx);obtain ⟨nm,tx,XA,XK⟩:=x;have hxt:tx.size<=300:=hxt;obtain ⟨b,off,va,vk,rfl,hok,hbl,c0,c1,c2,c3,hR⟩:=om HS.out hx;obtain ⟨aA,nA,cA,rfl⟩:=Rd.au hR.at_
   obtain ⟨aK,nK,cK,rfl⟩:=Rd.au hR.ks;have e0:wr.cell? ⟨b,off+k*4,none⟩=some (.string nm):=(hbel.cell (p:=⟨b,_,none⟩) hbl).trans c0;have e1:wr.cell? ⟨b,off+k*4+1,none⟩=some (.string tx):=(hbel.cell (p:=⟨b,_,none⟩) hbl).trans c1;have e2:wr.cell? ⟨b,off+k*4+2,none⟩=some (.slice aA nA cA):=(hbel.cell (p:=⟨b,_,none⟩) hbl).trans c2;have e3:wr.cell? ⟨b,off+k*4+3,none⟩=some (.slice aK nK cK):=(hbel.cell (p:=⟨b,_,none⟩) hbl).trans c3;have hwz:=hbel.size;have HXD:Hid (Rd (fun b'=>(m0<=b'/\b'<w.heap.size)\/wr.heap.size<=b') wr (Nd.mk nm tx XA XK).d [.string nm,.string tx,.slice aA nA cA,.slice aK nK cK]):=
    Rd.keep (fun b' (h1:m0<=b') h2=>⟨.inl ⟨h1,h2⟩,hbel.block b' h2⟩) _ _ (Nd.dJ nm tx hR)
   obtain ⟨n,hn⟩:∃ n,n=(Out.map Nd.d).length:=⟨_,rfl⟩;obtain ⟨av,cv,rfl,hcv,jz3⟩:=hrow.cap hn.symm;unfold maxLen at jz3;have hnk:n<=k:=by rw [hn,jG1];exact hol
   have HN:=hid hn.symm;have HOT:=hid hot;have HST:=hid hst;have bE:=hid hrow;have qe:=QM nm;clear hst hot hOut hn hR c0 c1 c2 c3 hok hx hol hrow hbel;by_cases hA:bq nm=false\/n=0\/∃ qB y,Out=qB++[y]/\bq y.nm=false
   ·have HJ:Hid ((BS (L.take (k+1))).map Nd.d=Out.map Nd.d++[(Nd.mk nm tx XA XK).d]):=by
     show _=_;rw [HST.out];have:jG Out (.mk nm tx XA XK)=Out++[.mk nm tx XA XK]:=by
      unfold jG;rcases hA with h | h | ⟨qB,y,rfl,h⟩
      ·rw [if_neg (show ¬ bq (Nd.mk nm tx XA XK).nm=true by show ¬ bq nm=true;rw [h];simp)]
      ·have:Out=[]:=by
        have h9:=HN.out;rw [h,jG1] at h9;exact List.eq_nil_of_length_eq_zero h9
       subst this;split<;>rfl
      ·split
       ·rw [List.getLast?_append];simp only [List.getLast?_singleton,Option.some_or];rw [if_neg (by rw [h];simp)]
       ·rfl
     rw [this,jGk];rfl
    have PUT:Hid (n<=10000000):=by show _<=_;omega
    rcases hA with h | h | ⟨qB,y,hOy,h⟩
    ·have q1:nm.toList.isEmpty=false:=by rw [qe];exact h
     clear h qe HST HOT;go_wp2_with (at_builtin;refine OP (n:=n) rfl _ _ 28 rfl iN _ 80 underlying28 qG fF fG fH rfl (by decide) bE.out (fun b' hb'=>hb'.2) (Nd.mk nm tx XA XK).d [.string nm,.string tx,.slice aA nA cA,.slice aK nK cK] HXD.out rfl F9 HN.out PUT.out (by decide) rfl rfl ?_)
     intro a' c' w5 bC hg5;have HF:Hid (vW m0 w L (.slice a' (n+1) c') (.int .i64 ((k+1:Nat):Int)) w5):=by rw [<- HJ.out] at bC;exact ⟨k+1,_,by omega,rfl,bC⟩
     clear bC hg5;go_wp2;go_roundw;case rel=>exact HF.out
     case measure=>simp [intOf];omega
    ·subst h;have jD3:=bE;cases hne:bq nm
     ·have q1:nm.toList.isEmpty=false:=by rw [qe];exact hne
      clear hne qe HST HOT;go_wp2_with (at_builtin;refine OP (n:=0) rfl _ _ 28 rfl iN _ 80 underlying28 qG fF fG fH rfl (by decide) bE.out (fun b' hb'=>hb'.2) (Nd.mk nm tx XA XK).d [.string nm,.string tx,.slice aA nA cA,.slice aK nK cK] HXD.out rfl F9 HN.out PUT.out (by decide) rfl rfl ?_)
      intro a' c' w5 bC hg5;have HF:Hid (vW m0 w L (.slice a' (0+1) c') (.int .i64 ((k+1:Nat):Int)) w5):=by rw [<- HJ.out] at bC;exact ⟨k+1,_,by omega,rfl,bC⟩
      clear bC hg5;go_wp2;go_roundw;case rel=>exact HF.out
      case measure=>simp [intOf];omega
     ·have q1:nm.toList.isEmpty=true:=by rw [qe];exact hne
      have q1':nm.toList=[]:=by rw [List.isEmpty_iff] at q1;exact q1
      clear hne qe HST HOT;go_wp2_with (at_builtin;refine OP (n:=0) rfl _ _ 28 rfl iN _ 80 underlying28 qG fF fG fH rfl (by decide) bE.out (fun b' hb'=>hb'.2) (Nd.mk nm tx XA XK).d [.string nm,.string tx,.slice aA nA cA,.slice aK nK cK] HXD.out rfl F9 HN.out PUT.out (by decide) rfl rfl ?_)
      intro a' c' w5 bC hg5;have HF:Hid (vW m0 w L (.slice a' (0+1) c') (.int .i64 ((k+1:Nat):Int)) w5):=by rw [<- HJ.out] at bC;exact ⟨k+1,_,by omega,rfl,bC⟩
      clear bC hg5;go_wp2;go_roundw;case rel=>exact HF.out
      case measure=>simp [intOf];omega
    ·cases hne:bq nm
     ·have q1:nm.toList.isEmpty=false:=by rw [qe];exact hne
      clear hne qe HST HOT h hOy;go_wp2_with (at_builtin;refine OP (n:=n) rfl _ _ 28 rfl iN _ 80 underlying28 qG fF fG fH rfl (by decide) bE.out (fun b' hb'=>hb'.2) (Nd.mk nm tx XA XK).d [.string nm,.string tx,.slice aA nA cA,.slice aK nK cK] HXD.out rfl F9 HN.out PUT.out (by decide) rfl rfl ?_)
      intro a' c' w5 bC hg5;have HF:Hid (vW m0 w L (.slice a' (n+1) c') (.int .i64 ((k+1:Nat):Int)) w5):=by rw [<- HJ.out] at bC;exact ⟨k+1,_,by omega,rfl,bC⟩
      clear bC hg5;go_wp2;go_roundw;case rel=>exact HF.out
      case measure=>simp [intOf];omega
     ·have q1:nm.toList.isEmpty=true:=by rw [qe];exact hne
      have q1':nm.toList=[]:=by rw [List.isEmpty_iff] at q1;exact q1
      have hrw:=bE.out;rw [hOy,jGk] at hrw;obtain ⟨yn,yt,yA,yK⟩:=y;have h:bq yn=false:=h;obtain ⟨rows',a0,a1,a2,a3,rfl,hyd⟩:=aG.uS (ds:=qB.map Nd.d) (d:=(Nd.mk yn yt yA yK).d) hrw;obtain ⟨va',vk',he,hyR⟩:=Nd.open_ hyd;obtain ⟨rfl,rfl,rfl,rfl⟩:a0=.string yn/\a1=.string yt/\a2=va'/\a3=vk':=by simp at he;exact he
      have hn9:=HN.out;rw [hOy] at hn9;obtain ⟨n1,rfl⟩:∃ n1,n=n1+1:=⟨n-1,by simp at hn9;omega⟩;have hn1:(qB.map Nd.d).length=n1:=by simp at hn9 ⊢;omega
      obtain ⟨g,cap',hgv,-⟩:=jE hrw.own (by simp);obtain ⟨rfl,rfl⟩:av=some ⟨g,0,none⟩/\cv=cap':=by injection hgv with h1 h2 h3;exact ⟨h1,h3⟩
      obtain ⟨y0,y1,y2,y3,yf⟩:=aG.C9 (ds:=qB.map Nd.d) hrw hn1;have q2:yn.toList.isEmpty=false:=by rw [QM];exact h
      have t0:(0:Int)<(n1:Int)+1:=by omega
      have t1:(0:Int)<=(n1:Int):=by omega
      have t2:(n1:Int)<(n1:Int)+1:=by omega
      have t3:n1<n1+1:=by omega
      have t5:(n1:Int)+1<=9223372036854775807:=by omega
      clear hne qe HST HOT h hOy hrw he hyR hyd hgv hn9 hn1;go_wp2_with (at_builtin;refine OP (n:=n1+1) rfl _ _ 28 rfl iN _ 80 underlying28 qG fF fG fH rfl (by decide) bE.out (fun b' hb'=>hb'.2) (Nd.mk nm tx XA XK).d [.string nm,.string tx,.slice aA nA cA,.slice aK nK cK] HXD.out rfl F9 HN.out PUT.out (by decide) rfl rfl ?_)
      intro a' c' w5 bC hg5;have HF:Hid (vW m0 w L (.slice a' (n1+1+1) c') (.int .i64 ((k+1:Nat):Int)) w5):=by rw [<- HJ.out] at bC;exact ⟨k+1,_,by omega,rfl,bC⟩
      clear bC hg5;go_wp2;go_roundw;case rel=>exact HF.out
      case measure=>simp [intOf];omega
   ·have hne:bq nm=true:=by cases h:bq nm;exact absurd (.inl h) hA;rfl
    have hn0:n≠0:=fun h=>hA (.inr (.inl h))
    have jt7:Out≠[]:=fun h=>by have h9:=HN.out;rw [h] at h9;simp at h9;omega
    obtain ⟨qB,y,rfl⟩:∃ qB y,Out=qB++[y]:=⟨_,_,(List.dropLast_concat_getLast jt7).symm⟩;have hye:bq y.nm=true:=by cases h:bq y.nm;exact absurd (.inr (.inr ⟨qB,y,rfl,h⟩)) hA;rfl
    have hyt:=HOT.out y (by simp);have hj:jG (qB++[y]) (.mk nm tx XA XK)=qB++[.mk y.nm (y.tx++tx) y.at_ y.ks]:=by unfold jG;rw [if_pos (show bq (Nd.mk nm tx XA XK).nm=true from hne),List.getLast?_append];simp only [List.getLast?_singleton,Option.some_or];rw [if_pos hye,List.dropLast_concat];rfl
    obtain ⟨yn,yt,yA,yK⟩:=y;dsimp only [Nd.nm,Nd.tx,Nd.at_,Nd.ks] at hye hyt hj;have hrw:=bE.out;rw [jGk] at hrw;obtain ⟨rows',a0,a1,a2,a3,rfl,hyd⟩:=aG.uS (ds:=qB.map Nd.d) (d:=(Nd.mk yn yt yA yK).d) hrw;obtain ⟨va',vk',he,hyR⟩:=Nd.open_ hyd;obtain ⟨rfl,rfl,rfl,rfl⟩:a0=.string yn/\a1=.string yt/\a2=va'/\a3=vk':=by simp at he;exact he
    obtain ⟨n1,rfl⟩:∃ n1,n=n1+1:=⟨n-1,by omega⟩;have hn1:(qB.map Nd.d).length=n1:=by have h9:=HN.out;simp at h9 ⊢;omega
    obtain ⟨g,cap',hgv,-⟩:=jE hrw.own (by simp);obtain ⟨rfl,rfl⟩:av=some ⟨g,0,none⟩/\cv=cap':=by injection hgv with h1 h2 h3;exact ⟨h1,h3⟩
    obtain ⟨y0,y1,y2,y3,yf⟩:=aG.C9 (ds:=qB.map Nd.d) hrw hn1;have hgl:=hrw.own.lt g rfl;have HJ:Hid ((BS (L.take (k+1))).map Nd.d=qB.map Nd.d++[(Nd.mk yn (yt++tx) yA yK).d]):=by show _=_;rw [HST.out,hj,jGk];rfl
    have jt8:=hid (hrw.set1 (j:=1) (u:=.string (yt++tx)) hn1 (by decide) (d1:=(Nd.mk yn (yt++tx) yA yK).d) (by
     show Rd _ _ _ [.string yn,.string (yt++tx),_,_];refine Nd.dJ yn (yt++tx) (hyR.keep (fun b' hb' _=>⟨⟨hb'.1,fun e=>hb'.2.1 (by rw [e];rfl),hb'.2.2⟩,rfl⟩))))
    have q1:nm.toList.isEmpty=true:=by rw [qe];exact hne
    have q2:yn.toList.isEmpty=true:=by rw [QM];exact hye
    have q1':nm.toList=[]:=by rw [List.isEmpty_iff] at q1;exact q1
    have q2':yn.toList=[]:=by rw [List.isEmpty_iff] at q2;exact q2
    have hadd:∀ w:jIq,(Op.stringOp .add yt tx).run prog w=.ok (.string (yt++tx)) w:=fun w=>run_string_add_sum w _ _ (by omega)
    have t0:(0:Int)<(n1:Int)+1:=by omega
    have t1:(0:Int)<=(n1:Int):=by omega
    have t2:(n1:Int)<(n1:Int)+1:=by omega
    have t3:n1<n1+1:=by omega
    have t4:(0:Int)<((n1+1:Nat):Int):=by omega
    have t5:(n1:Int)+1<=9223372036854775807:=by omega
    have t7:(k:Int)<(L.length:Int):=by omega
    have t8:(0:Int)<=(k:Int):=by omega
    clear hne hye hyt hj he hyR hyd hgv jt7 hA hn0 bE HOT HST qe;go_upto_region 7 with (fail)
    have t9:IntKind.i64.wrap ((n1:Int)+1-1)=(n1:Int):=by
     have e:(n1:Int)+1-1=(n1:Int):=by omega
     rw [e];exact IntWalk.i64_in _ ⟨by omega,by omega⟩
    have t10:IntKind.i64.wrap (n1:Int)=(n1:Int):=IntWalk.i64_in _ ⟨by omega,by omega⟩;have S0:wr.drew.cell? ⟨g,n1*4+1,none⟩=some (.string yt)/\wr.drew.cell? ⟨b,off+k*4+1,none⟩=some (.string tx):=⟨y1,e1⟩;refine kC 17 (fun w'=>w'.cell? ⟨g,n1*4+1,none⟩=some (.string yt)/\w'.cell? ⟨b,off+k*4+1,none⟩=some (.string tx)) (by kernel_rfl) S0 ?_;intro hH;refine BO 0 rfl (by kernel_rfl) hH (by rfl) (by intro wv hSw;(try dsimp only at hSw);go_simp;try with_reducible rfl) ?_;refine BO 1 rfl (by kernel_rfl) hH (by rfl) (by intro wv hSw;(try dsimp only at hSw);go_simp;try with_reducible rfl) ?_;refine BO 2 rfl (by kernel_rfl) hH (by rfl) (by intro wv hSw;(try dsimp only at hSw);go_simp;try with_reducible rfl) ?_;refine BO 3 rfl (by kernel_rfl) hH (by rfl) (by intro wv hSw;(try dsimp only at hSw);go_simp;try with_reducible rfl) ?_;refine BO 4 rfl (by kernel_rfl) hH (by rfl) (by intro wv hSw;(try dsimp only at hSw);go_simp;try with_reducible rfl) ?_;refine BO 5 rfl (by kernel_rfl) hH (by rfl) (by intro wv hSw;(try dsimp only at hSw);go_simp;try with_reducible rfl) ?_;refine BO 6 rfl (by kernel_rfl) hH (by rfl) (by intro wv hSw;(try dsimp only at hSw);go_simp;try with_reducible rfl) ?_;refine BO 7 rfl (by kernel_rfl) hH (by rfl) (by intro wv hSw;(try dsimp only at hSw);go_simp;try with_reducible rfl) ?_;refine BO 8 rfl (by kernel_rfl) hH (by rfl) (by intro wv hSw;(try dsimp only at hSw);go_simp;try with_reducible rfl) ?_;refine BO 9 rfl (by kernel_rfl) hH (by rfl) (by intro wv hSw;(try dsimp only at hSw);go_simp;try with_reducible rfl) ?_;refine BO 10 rfl (by kernel_rfl) hH (by rfl) (by intro wv hSw;(try dsimp only at hSw);go_simp;try with_reducible rfl) ?_;refine BO 11 rfl (by kernel_rfl) hH (by rfl) (by intro wv hSw;(try dsimp only at hSw);go_simp;try with_reducible rfl) ?_;refine BO 12 rfl (by kernel_rfl) hH (by rfl) (by intro wv hSw;(try dsimp only at hSw);go_simp;try with_reducible rfl) ?_;refine BO 13 rfl (by kernel_rfl) hH (by rfl) (by intro wv hSw;(try dsimp only at hSw);go_simp;try with_reducible rfl) ?_;refine BO 14 rfl (by kernel_rfl) hH (by rfl) (by intro wv hSw;(try dsimp only at hSw);go_simp;try with_reducible rfl) ?_;refine BO 15 rfl (by kernel_rfl) hH (by rfl) (by intro wv hSw;(try dsimp only at hSw);go_simp;try with_reducible rfl) ?_;refine BO 16 rfl (by kernel_rfl) hH (by rfl) (by intro wv hSw;(try dsimp only at hSw);go_simp;try with_reducible rfl) ?_;refine JA (i:=17) rfl (by kernel_rfl) (fun KQ hK=>?_);go_simp;refine hK.out _ _ (fun h=>absurd rfl h) (fun _=>?_);clear hK KQ;refine kD (by kernel_rfl) ?_ _;obtain ⟨w5,Df⟩:∃ w5,w5=wr.drew.setCell ⟨g,n1*4+1,none⟩ (.string (yt++tx)):=⟨_,rfl⟩;have HF:Hid (vW m0 w L (.slice (some ⟨g,0,none⟩) (n1+1) cv) (.int .i64 ((k+1:Nat):Int)) w5):=by
     have h1:=jt8.out.drew.top;have e5:(wr.setCell ⟨g,n1*4+1,none⟩ (.string (yt++tx))).drew=w5:=by rw [Df];rfl
     rw [e5,<- HJ.out] at h1;exact ⟨k+1,_,by omega,rfl,h1⟩
    have jt9:(wr.setCell ⟨g,n1*4+1,none⟩ (.string (yt++tx))).drew=w5:=by rw [Df];rfl
    (first | rw [<- Df] | rw [jt9])
    clear Df jt9 jt8 y0 y1 y2 y3 yf q1 q2 q1' q2' S0 hH t9 t10;go_wp2;go_roundw;case rel=>exact HF.out
    case measure=>simp [intOf];omega
  ·have hkl:k=L.length:=by omega
   obtain ⟨n,hn⟩:∃ n,n=(Out.map Nd.d).length:=⟨_,rfl⟩;obtain ⟨av,cv,rfl,-,-⟩:=hrow.cap hn.symm;have HF:Hid (Sr m0 w L (.returned (.slice av n cv)) wr):=⟨rows,_,rfl,by rw [hOut,hkl,List.take_length] at hrow;exact hrow⟩;clear hrow hot hol hn;go_wp2;go_ret;exact HF.out
end Go.Proofs.YtklhajbpfelliaaGreatDoor

