/- publisherref33.Parse at the markup of a valid element: it reads it whole, and its node lies there. Contracts of markup.Escape, write, Text: at valid markup. The walk of publisherlaw34.HtmlValid. -/
import Derived.Test.YtkfnkeflalcphaaGreatDoorKMkN
import Derived.Test.YtkfnkeflalcphaaGreatDoorKHwD
set_option maxHeartbeats 8000000
set_option maxRecDepth 100000
open Go.Lib (hid)
namespace Go.Proofs.YtkfnkeflalcphaaGreatDoor
open Go.RowKit.Below renaming refl->jnk
open Nat renaming le_refl->jnq,le_trans->jnx
open List renaming length_append->jo1,length_cons->jo3
open Go renaming World->jqz
open Go.RowKit renaming Below->jr0
open Go.RowKit
set_option linter.unusedVariables false
set_option linter.unusedSimpArgs false
theorem Iq (x:Nd) (s:ByteArray) (w:jqz) (hck:x.kW=0) (htz:x.tz) (hnm:q01 x.nm=false) (hsx:s.data.toList=x.iO) (hs2:s.size<=1000000000000) : Calls Tryz.prog 30 #[.string s] w fun e w'=>∃ va vk,e=.returned (.tuple #[.agg #[.string x.nm,.string x.tx,va,vk],.int .i64 s.size,.int .i64 0])/\gF (fun _=>True) w' x.at_ x.ks va vk/\jr0 w.heap.size w w':=by
 obtain ⟨R,hR⟩:∃ R,R=w.heap.size:=⟨_,rfl⟩;obtain ⟨W0,hW0⟩:∃ W0,W0=w.alloc (.cells #[.string ⟨#[]⟩,.string ⟨#[]⟩,.slice none 0 0,.slice none 0 0] 35):=⟨_,rfl⟩;have k0:CB 35 R fP W0:=by rw [hW0,hR];exact CB.new _ _ w
 have b0:jr0 w.heap.size w W0:=by rw [hW0];exact (jnk _ _).alloc (jnq _) _
 obtain ⟨P,hP⟩:∃ P,P=W0.heap.size:=⟨_,rfl⟩;obtain ⟨W1,hW1⟩:∃ W1,W1=W0.alloc (.cells #[.string s,.int .i64 0,.int .i64 0] 109):=⟨_,rfl⟩;have k1:CB 109 P [.string s,.int .i64 ((0:Nat):Int),.int .i64 0] W1:=by rw [hW1,hP];exact CB.new _ _ W0
 have b1:jr0 W0.heap.size W0 W1:=by rw [hW1];exact (jnk _ _).alloc (jnq _) _
 have hat:fI s 0 (x.iO++[]):=⟨Nat.zero_le _,by rw [List.append_nil];exact hsx⟩;have NC:=hid (LV x.sz x P s 0 [] false W1 (jnq _) hck htz hs2 (fun h=>by rw [hnm] at h;cases h) k1 hat);have hln:0+x.iO.length=s.size:=by rw [<- hsx,nD];omega
 rw [hln] at NC;have hP1:P=w.heap.size+1:=by rw [hP,hW0,World.size_alloc]
 have hRP:R<P:=by rw [hP];exact k0.lt
 have hPw:w.heap.size<=P:=by rw [hP];exact b0.size
 have K1:Hid (CB 35 R fP W1):=k0.below b1;have B1:=hid (aU b0 b1);have HRW:Hid (w.heap.size<=R):=by show _<=_;omega
 have Vs:Hid (R=w.heap.size):=hR;obtain ⟨nm,tx,at_,ks⟩:=x;dsimp only [Nd.nm,Nd.tx,Nd.at_,Nd.ks] at hnm ⊢;clear hck htz hsx hs2 hat hln k0 b0 k1 b1 hnm;go_enter Tryz.func30,Tryz.ntmps30;go_upto_region 2 with (fail)
 rw [<- hW0,<- hW1,<- hP1,<- hR];clear hW0 hW1 hP hP1 hR;go_wp2_with fail
 (with_reducible refine NC.out.mono ?_)
 rintro e w2 ⟨va,vk,rfl,hN,h2⟩;dsimp only [Nd.nm,Nd.tx,Nd.at_,Nd.ks] at hN ⊢;obtain ⟨aA,nA,cA,rfl⟩:=Rd.au hN.at_
 obtain ⟨aK,nK,cK,rfl⟩:=Rd.au hN.ks;have HS2:=hid h2;have K2:Hid (CB 35 R fP w2):=(h2.gr.block R K1.out.lt (fun e=>by injection e with e;omega)).trans K1.out;have B2:=hid (B1.out.trans (h2.aN hPw B1.out.size));obtain ⟨N,hNn⟩:∃ N,N=w2.heap.size:=⟨_,rfl⟩;obtain ⟨w3,hw3⟩:∃ w3,w3=w2.alloc (.cells #[.string nm,.string tx,.slice aA nA cA,.slice aK nK cK] 35):=⟨_,rfl⟩;have k3:CB 35 N [.string nm,.string tx,.slice aA nA cA,.slice aK nK cK] w3:=by rw [hw3,hNn];exact CB.new _ _ _
 have b3:jr0 w2.heap.size w2 w3:=by rw [hw3];exact (jnk _ _).alloc (jnq _) _
 have zR:=hid (HS2.out.far (zx b3));have K3:=hid (K2.out.below b3);have N3:=hid k3;have hRN:R<N:=by rw [hNn];exact K2.out.lt
 have HN3:Hid (gF (w.heap.size+1<=·) w3 at_ ks (.slice aA nA cA) (.slice aK nK cK)):=
  ⟨(hN.at_.aV b3).weaken (fun b h=>by have:=K1.out.lt;have:=Vs.out;have h:W1.heap.size<=b:=h;omega),(hN.ks.aV b3).weaken (fun b h=>by have:=K1.out.lt;have:=Vs.out;have h:W1.heap.size<=b:=h;omega)⟩
 have B3:=hid (B2.out.trans (b3.mono B2.out.size));have XF:Hid (∀ W:jqz,jr0 w3.heap.size w3 W->W.cell? ⟨P,1,none⟩=some (.int .i64 (s.size:Int))/\W.cell? ⟨N,0,none⟩=some (.string nm)/\W.cell? ⟨N,1,none⟩=some (.string tx)/\W.cell? ⟨N,2,none⟩=some (.slice aA nA cA)/\W.cell? ⟨N,3,none⟩=some (.slice aK nK cK)):=fun W hW=>⟨(zR.out.cb.below hW).cell 1 _ rfl,(N3.out.below hW).cell 0 _ rfl,(N3.out.below hW).cell 1 _ rfl,(N3.out.below hW).cell 2 _ rfl,(N3.out.below hW).cell 3 _ rfl⟩
 have c2:=zR.out.c2;clear hN h2 k3 b3 NC;go_upto_region 3 with (fail)
 rw [<- hw3,<- hNn];clear hw3 hNn;go_upto_region 5 with (fail)
 clear c2;obtain ⟨d0,d1,d2,d3,d4⟩:=XF.out w3 (jnk _ _);have hkx:=oC K3.out;obtain ⟨x0,x1,x2,x3,xf⟩:=hkx;have hNR:N≠R:=by omega
 have hPR:P≠R:=by omega
 have HF:Hid (CB 35 R [.string nm,.string tx,.slice aA nA cA,.slice aK nK cK] (dY w3 R (.string nm) (.string tx) (.slice aA nA cA) (.slice aK nK cK)).drew/\gF (fun _=>True) (dY w3 R (.string nm) (.string tx) (.slice aA nA cA) (.slice aK nK cK)).drew at_ ks (.slice aA nA cA) (.slice aK nK cK)/\jr0 w.heap.size w (dY w3 R (.string nm) (.string tx) (.slice aA nA cA) (.slice aK nK cK)).drew):=by
  have hb:=B3.out;have hg:=FJ w3 R (.string nm) (.string tx) (.slice aA nA cA) (.slice aK nK cK);have hk:∀ b,w.heap.size+1<=b->b<w3.heap.size->(dY w3 R (.string nm) (.string tx) (.slice aA nA cA) (.slice aK nK cK)).drew.heap[b]?=w3.heap[b]?:=fun b h1 h2=>hg.block b h2 (fun e=>by injection e with e;have:=Vs.out;omega)
  exact ⟨jo K3.out _ _ _ _,⟨Rd.keep (fun b hb' hl=>⟨trivial,hk b hb' hl⟩) _ _ HN3.out.at_,Rd.keep (fun b hb' hl=>⟨trivial,hk b hb' hl⟩) _ _ HN3.out.ks⟩,
   Below.drew (a:=w) (w:=(dY w3 R (.string nm) (.string tx) (.slice aA nA cA) (.slice aK nK cK))) ⟨hg.os.trans hb.os,hg.tape.trans hb.tape,hg.output.trans hb.output,jnx hb.size hg.size,fun k hk=>(hg.block k (by have:=hb.size;omega) (fun e=>by injection e with e;have:=HRW.out;omega)).trans (hb.block k hk)⟩⟩
 have uU:=hid HF.out;unfold dY at uU
 go_region
 go_wp2;exact bodyPost_ret (v:=.tuple #[.agg #[.string nm,.string tx,.slice aA nA cA,.slice aK nK cK],.int .i64 s.size,.int .i64 0]) (by have hc:=uU.out.1;simp [results,Tryz.results30,go_sem,hc.cell 0 _ rfl,hc.cell 1 _ rfl,hc.cell 2 _ rfl,hc.cell 3 _ rfl]) rfl ⟨_,_,rfl,uU.out.2.1,uU.out.2.2⟩
open Go.RowKit
theorem SQ {B b:Nat} {bs:List Value} {w w':jqz} (h:Lib.IsBuilderF 104 5 B b bs w) (hb:jr0 w.heap.size w w'):Lib.IsBuilderF 104 5 B b bs w':=by
 have key:∀ p,Lib.BuilderAtF 104 5 B b p bs w->Lib.BuilderAtF 104 5 B b p bs w':=fun p h=>by
  have hlt:=h.lt;obtain ⟨h1,v,h2,h3,h4⟩:=h;exact ⟨h1,v,(hb.block b hlt).trans h2,h3.kept (zx hb) (by cases hv:v.ownBlock<;>simp),h4⟩
 exact h.imp (key _) (key _)
theorem Bd.lt {B b:Nat} {P:List UInt8} {w:jqz} (h:Bd B b P w):B<=b/\b<w.heap.size:=h.1.elim (fun h=>⟨h.1,h.lt⟩) (fun h=>⟨h.1,h.lt⟩)
structure Wt (B b:Nat) (P:List UInt8) (w w':jqz):Prop where
 bd:Bd B b P w'
 aN:jr0 B w w'
 oth:Lib.OthersKept 5 (some b) w w'
section
variable {B b:Nat} {P Q:List UInt8} {w w' w'':jqz}
theorem Wt.start (h:Bd B b P w):Wt B b P w w:=⟨h,jnk _ _,Lib.OthersKept.refl _ _ _⟩
theorem Wt.trans (h:Wt B b P w w') (k:Wt B b Q w' w''):Wt B b Q w w'':=⟨k.bd,h.aN.trans k.aN,h.oth.trans k.oth⟩
theorem Wt.far (h:Wt B b P w w') (hb:jr0 w'.heap.size w' w''):Wt B b P w w'':=
 ⟨⟨SQ h.bd.1 hb,jnx h.bd.2 hb.size⟩,h.aN.trans (hb.mono h.bd.2),fun k o hk hn ho=>by
  have h1:=h.oth k o hk hn ho;exact (hb.block k (Array.getElem?_eq_some_iff.1 h1).1).trans h1⟩
theorem Wt.cb {p:Nat} {T:TypeId} {cs:List Value} (h:Wt B b P w w') (hc:CB T p cs w) (hp:p≠b) (hT:T≠5):CB T p cs w':=
 h.oth p _ hc (fun e=>hp (Option.some.inj e)) (fun c fz e=>by injection e with e1 e2 e3;exact hT e2)
end
def xB (B b:Nat) (P:List UInt8) (v:Value) (w:jqz) (e:Ending) (w':jqz):Prop:=e=.returned v/\Wt B b P w w'
theorem Ir (B b:Nat) (P:List UInt8) (s:ByteArray) (w:jqz) (h:Bd B b P w) (hl:P.length+s.size<=140737488355328) : Calls Tryz.prog 119 #[.pointer (some ⟨b,0,none⟩),.string s] w (xB B b (P++s.data.toList) (.tuple #[.int .i64 s.size,.nilIface]) w):=
 (oZ B b (Lib.byteCells P) s w h.1 (by rw [Lib.byteCells_length];exact hl) h.2).mono fun _ w' ⟨he,hw⟩=>⟨he,⟨⟨by rw [Lib.byteCells_append,<- nE];exact hw.1,jnx h.2 hw.2.1.size⟩,hw.2.1,hw.2.2⟩⟩
theorem jh0 (B b:Nat) (P:List UInt8) (c:UInt8) (w:jqz) (h:Bd B b P w) (hl:P.length+1<=140737488355328) : Calls Tryz.prog 157 #[.pointer (some ⟨b,0,none⟩),.int .u8 (c.toNat:Int)] w (xB B b (P++[c]) .nilIface w):=
 (iE B b (Lib.byteCells P) (c.toNat:Int) w h.1 (by rw [Lib.byteCells_length];exact hl) h.2).mono fun _ w' ⟨he,hw⟩=>⟨he,⟨⟨by rw [Lib.byteCells_append];exact hw.1,jnx h.2 hw.2.1.size⟩,hw.2.1,hw.2.2⟩⟩
def OT (S:Nat) (w1:jqz) (l:List UInt8) (vi:Value) (wr:jqz):Prop:=∃ k:Nat,k<=l.length/\vi=.int .i64 k/\Wt S S (q24 (l.take k)) w1 wr
theorem SV (c d:UInt8):((c.toNat:Int)==(d.toNat:Int))=decide (c=d):=by rw [Bool.eq_iff_iff,beq_iff_eq,decide_eq_true_iff];exact ⟨fun h=>UInt8.toNat_inj.1 (by omega),fun h=>by rw [h]⟩
theorem xC (s:ByteArray) (w:jqz) (hs:s.size<=1000000000) : Calls Tryz.prog 120 #[.string s] w fun e w'=>e=.returned (.string (nY s))/\jr0 w.heap.size w w':=by
 obtain ⟨S,hS⟩:∃ S,S=w.heap.size:=⟨_,rfl⟩;obtain ⟨w1,hw1⟩:∃ w1,w1=w.alloc (.cells #[.pointer none,.slice none 0 0] 104):=⟨_,rfl⟩;have b1:jr0 w.heap.size w w1:=by rw [hw1];exact (jnk _ _).alloc (jnq _) _
 have hbd:Bd S S [] w1:=by rw [hS,hw1];exact ⟨Lib.IsBuilderF.of (Lib.fresh_isBuilder 104 5 w),by simp⟩
 have R0:Hid (OT S w1 s.data.toList (.int .i64 0) w1):=⟨0,Nat.zero_le _,rfl,Wt.start hbd⟩;have B1:Hid (jr0 S w w1):=by show jr0 S w w1;rw [hS];exact b1
 have HSW:=hid hS;clear hbd b1;go_enter Tryz.func120,Tryz.ntmps120;go_wp2;rw [<- hw1,<- hS];clear hw1 hS
 go_loopw [7] (fun vi wr=>OT S w1 s.data.toList vi wr) (fun i _=>s.size-(intOf i).toNat)
 case atStart=>exact R0.out
 case round=>
  clear R0;obtain ⟨k,hk,rfl,hW⟩:=hrel;rw [nD] at hk;have HW:=hid hW;clear hW;by_cases hlt:k<s.size
  ·have hg:=GL s k hlt;have rX:=hid (AU s.data.toList k s[k] hg);have hln:=iQ (s.data.toList.take k);have hlt2:(s.data.toList.take k).length<=1000000000:=by rw [List.length_take,nD];omega
   have Ec:Hid ((q24 (s.data.toList.take k)).length<=6000000000):=by show _<=_;omega
   have q1:=SV s[k] 38;have q2:=SV s[k] 60;have q3:=SV s[k] 62;have q4:=SV s[k] 34;have e1:((38:UInt8).toNat:Int)=38:=rfl;have e2:((60:UInt8).toNat:Int)=60:=rfl;have e3:((62:UInt8).toNat:Int)=62:=rfl;have e4:((34:UInt8).toNat:Int)=34:=rfl;rw [e1] at q1;rw [e2] at q2;rw [e3] at q3;rw [e4] at q4;have JQ:Hid (gJ s[k]=if s[k]=38 then [38,97,109,112,59] else if s[k]=60 then [38,108,116,59] else if s[k]=62 then [38,103,116,59] else if s[k]=34 then [38,113,117,111,116,59] else [s[k]]):=rfl;have WS:=hid (fun t h=>Ir S S (q24 (s.data.toList.take k)) t wr HW.out.bd h);have WB:=hid (jh0 S S (q24 (s.data.toList.take k)) s[k] wr HW.out.bd (by have:=Ec.out;omega));have HF:Hid (∀ w',Wt S S (q24 (s.data.toList.take k)++gJ s[k]) wr w'->OT S w1 s.data.toList (.int .i64 ((k+1:Nat):Int)) w'):=fun w' h=>⟨k+1,by rw [nD];omega,rfl,by rw [rX.out];exact HW.out.trans h⟩
   have hgl:=UInt8.toNat_lt s[k];clear hg hln hlt2 e1 e2 e3 e4;by_cases h1:s[k]=38
   ·have HB:Hid (gJ s[k]=(⟨#[38,97,109,112,59]⟩:ByteArray).data.toList):=by show _=_;rw [JQ.out,if_pos h1]
    have W1:=hid (WS.out ⟨#[38,97,109,112,59]⟩ (by have:=Ec.out;show _+5<=_;omega));rw [decide_eq_true h1] at q1;clear h1 q2 q3 q4 WB WS;go_wp2_with fail
    (with_reducible refine W1.out.mono ?_)
    rintro e w2 ⟨rfl,hW2⟩;have HG:=hid (HF.out w2 (by rw [HB.out];exact hW2));clear hW2;go_wp2;go_roundw;case rel=>exact HG.out
    case measure=>simp [intOf];omega
   rw [decide_eq_false h1] at q1;by_cases h2:s[k]=60
   ·have HB:Hid (gJ s[k]=(⟨#[38,108,116,59]⟩:ByteArray).data.toList):=by show _=_;rw [JQ.out,if_neg h1,if_pos h2]
    have W1:=hid (WS.out ⟨#[38,108,116,59]⟩ (by have:=Ec.out;show _+4<=_;omega));rw [decide_eq_true h2] at q2;clear h1 h2 q3 q4 WB WS;go_wp2_with fail
    (with_reducible refine W1.out.mono ?_)
    rintro e w2 ⟨rfl,hW2⟩;have HG:=hid (HF.out w2 (by rw [HB.out];exact hW2));clear hW2;go_wp2;go_roundw;case rel=>exact HG.out
    case measure=>simp [intOf];omega
   rw [decide_eq_false h2] at q2;by_cases h3:s[k]=62
   ·have HB:Hid (gJ s[k]=(⟨#[38,103,116,59]⟩:ByteArray).data.toList):=by show _=_;rw [JQ.out,if_neg h1,if_neg h2,if_pos h3]
    have W1:=hid (WS.out ⟨#[38,103,116,59]⟩ (by have:=Ec.out;show _+4<=_;omega));rw [decide_eq_true h3] at q3;clear h1 h2 h3 q4 WB WS;go_wp2_with fail
    (with_reducible refine W1.out.mono ?_)
    rintro e w2 ⟨rfl,hW2⟩;have HG:=hid (HF.out w2 (by rw [HB.out];exact hW2));clear hW2;go_wp2;go_roundw;case rel=>exact HG.out
    case measure=>simp [intOf];omega
   rw [decide_eq_false h3] at q3;by_cases h4:s[k]=34
   ·have HB:Hid (gJ s[k]=(⟨#[38,113,117,111,116,59]⟩:ByteArray).data.toList):=by show _=_;rw [JQ.out,if_neg h1,if_neg h2,if_neg h3,if_pos h4]
    have W1:=hid (WS.out ⟨#[38,113,117,111,116,59]⟩ (by have:=Ec.out;show _+6<=_;omega));rw [decide_eq_true h4] at q4;clear h1 h2 h3 h4 WB WS;go_wp2_with fail
    (with_reducible refine W1.out.mono ?_)
    rintro e w2 ⟨rfl,hW2⟩;have HG:=hid (HF.out w2 (by rw [HB.out];exact hW2));clear hW2;go_wp2;go_roundw;case rel=>exact HG.out
    case measure=>simp [intOf];omega
   rw [decide_eq_false h4] at q4;have HB:Hid (gJ s[k]=[s[k]]):=by show _=_;rw [JQ.out,if_neg h1,if_neg h2,if_neg h3,if_neg h4]
   clear h1 h2 h3 h4 WS;go_wp2_with fail
   (with_reducible refine WB.out.mono ?_)
   rintro e w2 ⟨rfl,hW2⟩;have HG:=hid (HF.out w2 (by rw [HB.out];exact hW2));clear hW2;go_wp2;go_roundw;case rel=>exact HG.out
   case measure=>simp [intOf];omega
  ·have ST:=hid (Tryz.Builder_String_any_k S S _ wr HW.out.bd.1 HW.out.bd.2);have HE:Hid (nY s=⟨(q24 (s.data.toList.take k)).toArray⟩):=by
    show _=_;rw [List.take_of_length_le (by rw [nD];omega)];rfl
   have BF:=hid (B1.out.trans HW.out.aN);go_wp2_with fail
   (with_reducible refine ST.out.mono ?_)
   rintro e w2 ⟨rfl,-,b2,-⟩;have HFB:Hid (jr0 w.heap.size w w2):=by show jr0 _ _ _;rw [<- HSW.out];exact BF.out.trans b2
   clear b2;go_wp2;go_ret;exact ⟨by rw [HE.out];rfl,HFB.out⟩
def MwA (B b:Nat) (P:List UInt8) (a:List Pr) (W1:jqz) (vi:Value) (wr:jqz):Prop:=∃ k:Nat,k<=a.length/\vi=.int .i64 k/\Wt B b (P++bG (a.take k)) W1 wr
def MwK (B b:Nat) (P:List UInt8) (ks:List Nd) (W1:jqz) (vi:Value) (wr:jqz):Prop:=∃ k:Nat,k<=ks.length/\vi=.int .i64 k/\Wt B b (P++Nd.aX (ks.take k)) W1 wr
theorem LW (B b:Nat) (N:Nat):∀ (x:Nd) (P:List UInt8) (va vk:Value) (w:jqz),x.sz<=N->x.kW=0->x.tz->gF (·<B) w x.at_ x.ks va vk->Bd B b P w->P.length+x.iO.length<=1000000000000 -> Calls Tryz.prog 72 #[.pointer (some ⟨b,0,none⟩),.agg #[.string x.nm,.string x.tx,va,vk]] w (xB B b (P++x.iO) (.tuple #[]) w):=by
 induction N using Nat.strongRecOn with
 | _ N ih=>
  intro x P va vk w hN hck htz hA hbd hln;obtain ⟨nm,tx,at_,ks⟩:=x;dsimp only [Nd.nm,Nd.tx,Nd.at_,Nd.ks] at hA ⊢;obtain ⟨a1,c1,h1,s1⟩:=Rd.aC hA.at_
  obtain ⟨a2,c2,h2,s2⟩:=Rd.aC hA.ks;obtain ⟨n1,hn1⟩:∃ n,n=at_.length:=⟨_,rfl⟩
  obtain ⟨n2,hn2⟩:∃ n,n=ks.length:=⟨_,rfl⟩;obtain rfl:va=.slice a1 n1 c1:=by rw [hn1];simpa using h1
  obtain rfl:vk=.slice a2 n2 c2:=by rw [hn2];simpa using h2
  have l1:=s1.le;have l2:=s2.le;rw [List.length_map,<- hn1] at l1;rw [List.length_map,<- hn2] at l2;have m1:=s1.max;have m2:=s2.max;unfold maxLen at m1 m2;rw [Nd.sz] at hN;rw [Nd.tz] at htz;obtain ⟨NH,JV,MW,JW⟩:=htz;rw [Nd.kW] at hck;have hks:=Nd.aZ ks;obtain ⟨S,hS⟩:∃ S,S=w.heap.size:=⟨_,rfl⟩;obtain ⟨W1,hW1⟩:∃ W,W=w.alloc (.cells #[.string nm,.string tx,.slice a1 n1 c1,.slice a2 n2 c2] 35):=⟨_,rfl⟩;have k0:CB 35 S [.string nm,.string tx,.slice a1 n1 c1,.slice a2 n2 c2] W1:=by rw [hW1,hS];exact CB.new _ _ w
  have bW:jr0 w.heap.size w W1:=by rw [hW1];exact (jnk _ _).alloc (jnq _) _
  have hWt:=(Wt.start hbd).far bW;have hSb:S≠b:=by have:=hbd.lt.2;omega
  have hBS:B<=w.heap.size:=hbd.2;have CL:Hid (∀ Q w',Wt B b Q W1 w'->w'.cell? ⟨S,0,none⟩=some (.string nm)/\w'.cell? ⟨S,1,none⟩=some (.string tx)/\w'.cell? ⟨S,2,none⟩=some (.slice a1 n1 c1)/\w'.cell? ⟨S,3,none⟩=some (.slice a2 n2 c2)):=fun Q w' h=>by
   have k:=h.cb k0 hSb (by decide);exact ⟨k.cell 0 _ rfl,k.cell 1 _ rfl,k.cell 2 _ rfl,k.cell 3 _ rfl⟩
  have WT1:Hid (Wt B b P W1 W1):=Wt.start hWt.bd;obtain ⟨e0,e1,e2,e3⟩:=CL.out P W1 WT1.out;have EX:nm.toList.isEmpty=q01 nm:=by rw [Lib.toList_data,Bool.eq_iff_iff,List.isEmpty_iff,q01,decide_eq_true_iff]
  have WTW:=hid hWt;have H1:Hid (mo (·<B) W1 2 (at_.map Pr.d) a1 c1):=s1.below (bW.mono hBS);have H2:Hid (mo (·<B) W1 4 (ks.map Nd.d) a2 c2):=s2.below (bW.mono hBS);have IH:=hid ih;have RX:=hid hks;have Lu:=hid hn1;have uZ:=hid hn2;have HN:=hid hN;by_cases hne:q01 nm=true
  ·rw [hne] at EX;rw [Nd.iO,if_pos hne] at hln ⊢;have EC:=hid (xC tx W1 NH);have Ec:=hid hln;clear hne hck hA h1 h2 s1 s2 ih hks k0 bW hWt hn1 hn2 hN NH JV MW JW hbd hln;go_enter Tryz.func72,Tryz.ntmps72;go_upto_region 1 with (fail)
   rw [<- hW1,<- hS];clear hW1 hS;go_wp2_with fail
   (with_reducible refine EC.out.mono ?_)
   rintro e w2 ⟨rfl,b2⟩;have HW2:=hid (WTW.out.far b2);have WC:=hid (Ir B b P (nY tx) w2 HW2.out.bd (by have:=Ec.out;unfold nY;rw [mM];omega));clear b2 EC e0 e1 e2 e3;go_wp2_with fail
   (with_reducible refine WC.out.mono ?_)
   rintro e w3 ⟨rfl,h3⟩;have HF:Hid (Wt B b (P++q24 tx.data.toList) w w3):=by
    have h:=HW2.out.trans h3;unfold nY at h
    rwa [kI] at h
   clear h3;go_wp2
   go_end0
   exact ⟨rfl,HF.out⟩
  ·have hne:q01 nm=false:=by simpa using hne
   rw [hne] at EX;rw [if_neg (by rw [hne];simp)] at hck;split at hck
   ·cases hck
   rename_i g1
   split at hck
   ·cases hck
   rename_i g2
   split at hck
   ·rename_i g3;exact absurd hck g3
   rename_i g3
   have hat:rZ [] at_=0:=by simpa using g3
   obtain ⟨k1,-,-⟩:=qQ ks _ hck;have htk:=(Nd.qR ks).1 JW;have hmk:(Nd.mk nm tx at_ ks).iO=60::(nm.data.toList++(bG at_++(if pU nm=true then [47,62] else 62::(Nd.aX ks++(60::47::(nm.data.toList++[62])))))):=by rw [Nd.iO,if_neg (by rw [hne];simp)]
   have hall:=(lC at_ [] hat).1;have ZP:=hid hall;have TZ2:=hid JV;have K1:=hid k1;have TK:=hid htk;have HMK:=hid hmk;have Ec:=hid hln;have EC:=hid (fun W=>uy nm W);have hnl:nm.size<=1000000:=by have:=lQ (show dG nm=true by simpa using g1);rw [nD] at this;omega
   have jb2:∀ W:jqz,(Op.stringOp .add (⟨#[60]⟩:ByteArray) nm).run Tryz.prog W=.ok (.string ((⟨#[60]⟩:ByteArray)++nm)) W:=fun W=>run_string_add_sum W _ _ (by have:(⟨#[60]⟩:ByteArray).size=1:=rfl;omega)
   obtain ⟨P1,hP1⟩:∃ P1,P1=P++60::nm.data.toList:=⟨_,rfl⟩;have OU:=hid hP1;have hl1:P1.length+(bG at_).length<=1000000000000:=by rw [hmk] at hln;rw [hP1];simp only [jo1,jo3] at hln ⊢;omega
   have HL1:=hid hl1;have WC:=hid (Ir B b P ((⟨#[60]⟩:ByteArray)++nm) W1 WT1.out.bd (by rw [ByteArray.size_append];have:(⟨#[60]⟩:ByteArray).size=1:=rfl;rw [hP1] at hl1;simp only [jo1,jo3] at hl1;omega));clear hne hck g1 g2 g3 hA h1 h2 s1 s2 ih hks k0 bW hWt hn1 hn2 hN NH JV MW JW hbd hat hmk hall k1 htk hln hP1 hl1;go_enter Tryz.func72,Tryz.ntmps72;go_upto_region 1 with (fail)
   rw [<- hW1,<- hS];clear hW1 hS;go_wp2_with fail
   (with_reducible refine WC.out.mono ?_)
   rintro e w2 ⟨rfl,h2⟩;have HW2:Hid (Wt B b P1 W1 w2):=by rw [M8] at h2;show Wt _ _ _ _ _;rw [OU.out];exact h2
   have R0:Hid (MwA B b P1 at_ W1 (.int .i64 0) w2):=⟨0,Nat.zero_le _,rfl,by show Wt B b (P1++bG []) W1 w2;unfold bG;rw [List.flatMap_nil,List.append_nil];exact HW2.out⟩;obtain ⟨f0,f1,f2,f3⟩:=CL.out P1 w2 HW2.out;clear h2 WC e0 e1 e2 e3 jb2;go_wp2
   go_loopw [24] (fun vi wr=>MwA B b P1 at_ W1 vi wr) (fun i _=>n1-(intOf i).toNat)
   case atStart=>exact R0.out
   case round=>
    clear R0 f0 f1 f2 f3;obtain ⟨k,hk,rfl,hW⟩:=hrel;obtain ⟨f0,f1,f2,f3⟩:=CL.out _ wr hW;have HW:=hid hW;by_cases hlt:k<n1
    ·obtain ⟨y,hy⟩:∃ y,at_[k]?=some y:=⟨_,List.getElem?_eq_getElem (by have:=Lu.out;omega)⟩
     have hsn:=sN at_ k y hy
     have hym:y∈at_:=List.mem_of_getElem? hy
     have hyk:=(ZP.out y hym).1;have hyv:=TZ2.out y hym;obtain ⟨g,off,rfl,hgB,-,c0,c1⟩:=iW H1.out hy;have r0:wr.cell? ⟨g,off+k*2,none⟩=some (.string y.key):=(hW.aN.cell (p:=⟨_,_,none⟩) hgB).trans c0;have r1:wr.cell? ⟨g,off+k*2+1,none⟩=some (.string y.val):=(hW.aN.cell (p:=⟨_,_,none⟩) hgB).trans c1;have hpl:(bG (at_.take (k+1))).length<=(bG at_).length:=by
      conv=>rhs;rw [<- List.take_append_drop (k+1) at_]
      unfold bG;rw [List.flatMap_append,jo1];omega
     have hkl:y.key.size<=60:=by have h:=lQ hyk;rw [nD] at h;exact h
     obtain ⟨yk,yv⟩:=y;dsimp only at r0 r1 hsn hyv hkl;obtain ⟨p,hp⟩:∃ p,p=wr.heap.size:=⟨_,rfl⟩;obtain ⟨w3,hw3⟩:∃ w3,w3=wr.alloc (.cells #[.string yk,.string yv] 61):=⟨_,rfl⟩;have k3:CB 61 p [.string yk,.string yv] w3:=by rw [hw3,hp];exact CB.new _ _ _
     have b3:jr0 wr.heap.size wr w3:=by rw [hw3];exact (jnk _ _).alloc (jnq _) _
     have HW3:=hid (hW.far b3);have K3:=hid k3;have XF:Hid (∀ W:jqz,jr0 w3.heap.size w3 W->W.cell? ⟨p,0,none⟩=some (.string yk)/\W.cell? ⟨p,1,none⟩=some (.string yv)):=fun W hW=>⟨(K3.out.below hW).cell 0 _ rfl,(K3.out.below hW).cell 1 _ rfl⟩
     have hel:=iQ yv.data.toList;rw [nD] at hel;obtain ⟨E,hE⟩:∃ E,E=nY yv:=⟨_,rfl⟩;have hes:E.size<=6000000000:=by rw [hE];unfold nY;rw [mM];omega
     have hed:E.data.toList=q24 yv.data.toList:=by rw [hE];unfold nY;rw [kI]
     have EV:Hid (∀ W,Calls Tryz.prog 120 #[.string yv] W fun e w'=>e=.returned (.string E)/\jr0 W.heap.size W w'):=fun W=>by rw [hE];exact xC yv W hyv
     have z1:(⟨#[32]⟩:ByteArray).size=1:=rfl;have z2:(⟨#[61,34]⟩:ByteArray).size=2:=rfl;have z3:(⟨#[34]⟩:ByteArray).size=1:=rfl;have ad1:∀ W:jqz,(Op.stringOp .add (⟨#[32]⟩:ByteArray) yk).run Tryz.prog W=.ok (.string ((⟨#[32]⟩:ByteArray)++yk)) W:=fun W=>run_string_add_sum W _ _ (by omega)
     have ad2:∀ W:jqz,(Op.stringOp .add ((⟨#[32]⟩:ByteArray)++yk) (⟨#[61,34]⟩:ByteArray)).run Tryz.prog W=.ok (.string ((⟨#[32]⟩:ByteArray)++yk++(⟨#[61,34]⟩:ByteArray))) W:=fun W=>run_string_add_sum W _ _ (by rw [ByteArray.size_append];omega)
     have ad3:∀ W:jqz,(Op.stringOp .add ((⟨#[32]⟩:ByteArray)++yk++(⟨#[61,34]⟩:ByteArray)) E).run Tryz.prog W=.ok (.string ((⟨#[32]⟩:ByteArray)++yk++(⟨#[61,34]⟩:ByteArray)++E)) W:=fun W=>run_string_add_sum W _ _ (by rw [ByteArray.size_append,ByteArray.size_append];omega)
     have ad4:∀ W:jqz,(Op.stringOp .add ((⟨#[32]⟩:ByteArray)++yk++(⟨#[61,34]⟩:ByteArray)++E) (⟨#[34]⟩:ByteArray)).run Tryz.prog W=.ok (.string ((⟨#[32]⟩:ByteArray)++yk++(⟨#[61,34]⟩:ByteArray)++E++(⟨#[34]⟩:ByteArray))) W:=fun W=>run_string_add_sum W _ _ (by rw [ByteArray.size_append,ByteArray.size_append,ByteArray.size_append];omega)
     obtain ⟨T,hT⟩:∃ T,T=(⟨#[32]⟩:ByteArray)++yk++(⟨#[61,34]⟩:ByteArray)++E++(⟨#[34]⟩:ByteArray):=⟨_,rfl⟩;have hTl:bG (at_.take (k+1))=bG (at_.take k)++T.data.toList:=by rw [hsn,hT];simp only [M8,hed];simp
     have HTL:=hid hTl;have WC:Hid (∀ W,jr0 w3.heap.size w3 W->Calls Tryz.prog 119 #[.pointer (some ⟨b,0,none⟩),.string ((⟨#[32]⟩:ByteArray)++yk++(⟨#[61,34]⟩:ByteArray)++E++(⟨#[34]⟩:ByteArray))] W fun e w'=>e=.returned (.tuple #[.int .i64 T.size,.nilIface])/\MwA B b P1 at_ W1 (.int .i64 ((k+1:Nat):Int)) w'):=fun W hW=>by
      rw [<- hT];refine (Ir B b _ T W (HW3.out.far hW).bd (by rw [hTl] at hpl;rw [<- nD T];simp only [jo1] at hpl ⊢;have:=HL1.out;omega)).mono fun e w' ⟨he,h⟩=>⟨he,k+1,by have:=Lu.out;omega,rfl,?_⟩
      rw [hTl,<- List.append_assoc];exact (HW3.out.far hW).trans h
     clear hy hym hyk c0 c1 hgB k3 b3 hel hE hsn hpl hed hT hTl hW;go_upto_region 7 with (fail)
     rw [<- hw3,<- hp];clear hw3 hp r0 r1 f0 f1 f2 f3;refine M4 10 (fun w'=>jr0 w3.heap.size w3 w') (by kernel_rfl) (jnk _ _).drew ?_;intro hH;refine dw 0 rfl (by kernel_rfl) hH (by rfl) (by intro wv hSw;go_simp;try with_reducible rfl) ?_;refine dw 1 rfl (by kernel_rfl) hH (by rfl) (by intro wv hSw;go_simp;try with_reducible rfl) ?_;refine dw 2 rfl (by kernel_rfl) hH (by rfl) (by intro wv hSw;obtain ⟨d0,d1⟩:=XF.out wv hSw;go_simp;try with_reducible rfl) ?_;refine dw 3 rfl (by kernel_rfl) hH (by rfl) (by intro wv hSw;go_simp;try with_reducible rfl) ?_;refine dw 4 rfl (by kernel_rfl) hH (by rfl) (by intro wv hSw;go_simp;try with_reducible rfl) ?_;refine dw 5 rfl (by kernel_rfl) hH (by rfl) (by intro wv hSw;go_simp;try with_reducible rfl) ?_;refine dw 6 rfl (by kernel_rfl) hH (by rfl) (by intro wv hSw;obtain ⟨d0,d1⟩:=XF.out wv hSw;go_simp;try with_reducible rfl) ?_;obtain ⟨y0,hy0⟩:∃ y0,y0=w3.drew:=⟨_,rfl⟩;rw [<- hy0] at hH;rw [<- hy0];clear hy0;refine dO (i:=7) rfl (by kernel_rfl) (fun KQ hK=>?_);go_simp;go_at_call 120
     (with_reducible refine (EV.out _).mono ?_)
     rintro e y1 ⟨rfl,b1⟩;have hY:=aU hH b1;refine hK.out _ _ (fun _ _=>hY) (fun hH2=>?_);clear hK KQ hH hH2 b1;have hH:=hY;clear hY;refine dO (i:=8) rfl (by kernel_rfl) (fun KQ hK=>?_);go_simp;refine hK.out _ _ (fun _ _=>hH) (fun hH2=>?_);clear hK KQ hH2;refine dO (i:=9) rfl (by kernel_rfl) (fun KQ hK=>?_);go_simp;refine hK.out _ _ (fun _ _=>hH) (fun hH2=>?_);clear hK KQ hH2;refine dO (i:=10) rfl (by kernel_rfl) (fun KQ hK=>?_);go_simp;go_at_call 119
     (with_reducible refine (WC.out _ hH).mono ?_)
     rintro e y2 ⟨rfl,h2⟩;have HF:=hid h2;refine hK.out _ _ (fun h=>absurd rfl h) (fun _=>?_);clear hK KQ h2;refine Fx (by kernel_rfl) ?_ _;clear ad1 ad2 ad3 ad4;go_wp2;go_roundw;case rel=>exact HF.out
     case measure=>simp [intOf];omega
    ·have hkl:k=at_.length:=by have:=Lu.out;omega
     have Rm:Hid (Wt B b (P1++bG at_) W1 wr):=by have h:=hW;rw [hkl,List.take_length] at h;exact h
     obtain ⟨wq,hwq⟩:∃ wq:jqz,wq=wr:=⟨_,rfl⟩;subst hwq;clear hkl hW HW;by_cases hem:pU nm=true
     ·have OV:=hid (EC.out wq);rw [hem] at OV;have WC:=hid (Ir B b (P1++bG at_) ⟨#[47,62]⟩ wq Rm.out.bd (by have:=HL1.out;rw [jo1];show _+2<=_;omega));have HFE:Hid ((Nd.mk nm tx at_ ks).iO=60::(nm.data.toList++(bG at_++[47,62]))):=by show _=_;rw [HMK.out,if_pos hem]
      clear hem;go_wp2_with fail
      (with_reducible refine OV.out.mono ?_)
      rintro e w4 ⟨rfl,hw4⟩;rw [<- hw4];clear hw4 w4;go_wp2_with fail
      (with_reducible refine WC.out.mono ?_)
      rintro e w4 ⟨rfl,h4⟩;have HF:Hid (Wt B b (P++(Nd.mk nm tx at_ ks).iO) w w4):=by have h:=WTW.out.trans (Rm.out.trans h4);show Wt _ _ _ _ _;rw [HFE.out];rw [OU.out] at h;simpa using h
      clear h4;go_wp2
      go_end0
      exact ⟨rfl,HF.out⟩
     ·have hem:pU nm=false:=by simpa using hem
      have OV:=hid (EC.out wq);rw [hem] at OV;have HFE:Hid ((Nd.mk nm tx at_ ks).iO=60::(nm.data.toList++(bG at_++(62::(Nd.aX ks++(60::47::(nm.data.toList++[62]))))))):=by show _=_;rw [HMK.out,if_neg (by rw [hem];simp)]
      have HL2:Hid (P.length+(60::(nm.data.toList++(bG at_++(62::(Nd.aX ks++(60::47::(nm.data.toList++[62]))))))).length<=1000000000000):=by show _<=_;rw [<- HFE.out];exact Ec.out
      obtain ⟨P2,hP2⟩:∃ P2,P2=P1++bG at_++[62]:=⟨_,rfl⟩
      have HPP:=hid hP2;have HL3:Hid (P2.length+(Nd.aX ks).length+nm.data.toList.length+3<=1000000000000):=by show _<=_;have h:=HL2.out;rw [hP2,OU.out];simp only [jo1,jo3,List.length_nil] at h ⊢;omega
      have WC:=hid (Ir B b (P1++bG at_) ⟨#[62]⟩ wq Rm.out.bd (by have h:=HL3.out;rw [hP2,jo1] at h;show _+1<=_;simp only [jo3,List.length_nil] at h;omega));clear hem hP2;go_wp2_with fail
      (with_reducible refine OV.out.mono ?_)
      rintro e w4 ⟨rfl,hw4⟩;rw [<- hw4];clear hw4 w4;go_wp2_with fail
      (with_reducible refine WC.out.mono ?_)
      rintro e w4 ⟨rfl,h4⟩;have Ro:Hid (Wt B b P2 W1 w4):=by show Wt _ _ _ _ _;rw [HPP.out];exact Rm.out.trans h4
      have R1:Hid (MwK B b P2 ks W1 (.int .i64 0) w4):=⟨0,Nat.zero_le _,rfl,by show Wt B b (P2++Nd.aX []) W1 w4;rw [Nd.aX,List.append_nil];exact Ro.out⟩;obtain ⟨f0,f1,f2,f3⟩:=CL.out P2 w4 Ro.out;clear h4 WC;go_wp2
      go_loopw [50] (fun vi wr=>MwK B b P2 ks W1 vi wr) (fun i _=>n2-(intOf i).toNat)
      case atStart=>exact R1.out
      case round=>
       clear R1 f0 f1 f2 f3;obtain ⟨j,hj,rfl,hW⟩:=hrel;obtain ⟨f0,f1,f2,f3⟩:=CL.out _ wr hW;have HW:=hid hW;by_cases hlj:j<n2
       ·obtain ⟨y,hy⟩:∃ y,ks[j]?=some y:=⟨_,List.getElem?_eq_getElem (by have:=uZ.out;omega)⟩;have hym:y∈ks:=List.mem_of_getElem? hy;have Hu:=RX.out j y hy;have Va:=K1.out y hym;have Vb:=TK.out y hym;have hsn:=sO ks j y hy;have hle:(Nd.aX (ks.take (j+1))).length<=(Nd.aX ks).length:=by
         conv=>rhs;rw [<- List.take_append_drop (j+1) ks]
         rw [xD,jo1];omega
        obtain ⟨yn,yt,ya,yk⟩:=y;obtain ⟨g1,o1,u1,u2,rfl,hgB,-,x0,x1,x2,x3,Cn⟩:=iX H2.out hy;obtain ⟨i1,i2,i3,rfl⟩:=Rd.au Cn.at_
        obtain ⟨i4,i5,i6,rfl⟩:=Rd.au Cn.ks;have y0:wr.cell? ⟨g1,o1+j*4,none⟩=some (.string yn):=(hW.aN.cell (p:=⟨_,_,none⟩) hgB).trans x0;have y1:wr.cell? ⟨g1,o1+j*4+1,none⟩=some (.string yt):=(hW.aN.cell (p:=⟨_,_,none⟩) hgB).trans x1;have y2:wr.cell? ⟨g1,o1+j*4+2,none⟩=some (.slice i1 i2 i3):=(hW.aN.cell (p:=⟨_,_,none⟩) hgB).trans x2;have y3:wr.cell? ⟨g1,o1+j*4+3,none⟩=some (.slice i4 i5 i6):=(hW.aN.cell (p:=⟨_,_,none⟩) hgB).trans x3;obtain ⟨w5,Ao⟩:∃ w5,w5=wr.alloc (.cells #[.string yn,.string yt,.slice i1 i2 i3,.slice i4 i5 i6] 35):=⟨_,rfl⟩;obtain ⟨p,hp⟩:∃ p,p=wr.heap.size:=⟨_,rfl⟩;have k5:CB 35 p [.string yn,.string yt,.slice i1 i2 i3,.slice i4 i5 i6] w5:=by rw [Ao,hp];exact CB.new _ _ _
        have b5:jr0 wr.heap.size wr w5:=by rw [Ao];exact (jnk _ _).alloc (jnq _) _
        have h5:=hW.far b5;have HW5:=hid h5;have IC:Hid (Calls Tryz.prog 72 #[.pointer (some ⟨b,0,none⟩),.agg #[.string yn,.string yt,.slice i1 i2 i3,.slice i4 i5 i6]] w5 (xB B b ((P2++Nd.aX (ks.take j))++(Nd.mk yn yt ya yk).iO) (.tuple #[]) w5)):=
         IH.out (Nd.mk yn yt ya yk).sz (by have:=HN.out;omega) (Nd.mk yn yt ya yk) _ _ _ w5 (jnq _) Va Vb (Cn.keep (fun b' (hb:b'<B) _=>⟨hb,h5.aN.block b' hb⟩)) h5.bd (by rw [hsn,jo1] at hle;rw [jo1];have:=HL3.out;omega)
        have rX:=hid hsn;have e0:=k5.cell 0 _ rfl;have e1:=k5.cell 1 _ rfl;have e2:=k5.cell 2 _ rfl;have e3:=k5.cell 3 _ rfl;clear hy hym Hu Va Vb hsn hle x0 x1 x2 x3 hgB Cn k5 b5 h5 hW;go_upto_region 15 with (fail)
        rw [<- Ao,<- hp];clear Ao hp y0 y1 y2 y3 f0 f1 f2 f3;go_wp2_with fail
        (with_reducible refine IC.out.mono ?_)
        rintro e w6 ⟨rfl,h6⟩;have HF:Hid (MwK B b P2 ks W1 (.int .i64 ((j+1:Nat):Int)) w6):=⟨j+1,by have:=uZ.out;omega,rfl,by rw [rX.out,<- List.append_assoc];exact HW5.out.trans h6⟩;clear h6 IC e0 e1 e2 e3;go_wp2;go_roundw;case rel=>exact HF.out
        case measure=>simp [intOf];omega
       ·have hjl:j=ks.length:=by have:=uZ.out;omega
        have Vl:Hid (Wt B b (P2++Nd.aX ks) W1 wr):=by have h:=hW;rw [hjl,List.take_length] at h;exact h
        have z1:(⟨#[60,47]⟩:ByteArray).size=2:=rfl;have z2:(⟨#[62]⟩:ByteArray).size=1:=rfl;have ad1:∀ W:jqz,(Op.stringOp .add (⟨#[60,47]⟩:ByteArray) nm).run Tryz.prog W=.ok (.string ((⟨#[60,47]⟩:ByteArray)++nm)) W:=fun W=>run_string_add_sum W _ _ (by omega)
        have ad2:∀ W:jqz,(Op.stringOp .add ((⟨#[60,47]⟩:ByteArray)++nm) (⟨#[62]⟩:ByteArray)).run Tryz.prog W=.ok (.string ((⟨#[60,47]⟩:ByteArray)++nm++(⟨#[62]⟩:ByteArray))) W:=fun W=>run_string_add_sum W _ _ (by rw [ByteArray.size_append];omega)
        have WC:=hid (Ir B b (P2++Nd.aX ks) ((⟨#[60,47]⟩:ByteArray)++nm++(⟨#[62]⟩:ByteArray)) wr Vl.out.bd (by rw [jo1,ByteArray.size_append,ByteArray.size_append,z1,z2];have:=HL3.out;rw [nD] at this;omega));clear hjl hW HW;go_wp2_with fail
        (with_reducible refine WC.out.mono ?_)
        rintro e w7 ⟨rfl,h7⟩;have HF:Hid (Wt B b (P++(Nd.mk nm tx at_ ks).iO) w w7):=by have h:=WTW.out.trans (Vl.out.trans h7);show Wt _ _ _ _ _;rw [HFE.out];rw [HPP.out,OU.out] at h;simp only [M8] at h;simpa using h
        clear h7;go_wp2
        go_end0
        exact ⟨rfl,HF.out⟩
theorem OX (x:Nd) (va vk:Value) (w:jqz) (hck:x.kW=0) (htz:x.tz) (hA:gF (·<w.heap.size) w x.at_ x.ks va vk) (hln:x.iO.length<=1000000000000) : Calls Tryz.prog 29 #[.agg #[.string x.nm,.string x.tx,va,vk]] w fun e w'=>e=.returned (.tuple #[.string (kJ x.iO),.int .i64 0])/\jr0 w.heap.size w w':=by
 obtain ⟨nm,tx,at_,ks⟩:=x;dsimp only [Nd.nm,Nd.tx,Nd.at_,Nd.ks] at hA ⊢;obtain ⟨a1,n1,c1,rfl⟩:=Rd.au hA.at_
 obtain ⟨a2,n2,c2,rfl⟩:=Rd.au hA.ks;obtain ⟨S,hS⟩:∃ S,S=w.heap.size:=⟨_,rfl⟩;obtain ⟨W1,hW1⟩:∃ W,W=w.alloc (.cells #[.string nm,.string tx,.slice a1 n1 c1,.slice a2 n2 c2] 35):=⟨_,rfl⟩;have k0:CB 35 S [.string nm,.string tx,.slice a1 n1 c1,.slice a2 n2 c2] W1:=by rw [hW1,hS];exact CB.new _ _ w
 have bW:jr0 w.heap.size w W1:=by rw [hW1];exact (jnk _ _).alloc (jnq _) _
 have CK:Hid (Calls Tryz.prog 71 #[.agg #[.string nm,.string tx,.slice a1 n1 c1,.slice a2 n2 c2]] W1 (bX (.int .i64 0) W1)):=Iu _ (Nd.mk nm tx at_ ks) (.slice a1 n1 c1) (.slice a2 n2 c2) W1 (jnq _) hck htz ⟨hA.at_.up bW,hA.ks.up bW⟩;have CL:Hid (∀ w':jqz,jr0 W1.heap.size W1 w'->w'.cell? ⟨S,0,none⟩=some (.string nm)/\w'.cell? ⟨S,1,none⟩=some (.string tx)/\w'.cell? ⟨S,2,none⟩=some (.slice a1 n1 c1)/\w'.cell? ⟨S,3,none⟩=some (.slice a2 n2 c2)):=fun w' hb=>⟨(k0.below hb).cell 0 _ rfl,(k0.below hb).cell 1 _ rfl,(k0.below hb).cell 2 _ rfl,(k0.below hb).cell 3 _ rfl⟩
 obtain ⟨e0,e1,e2,e3⟩:=CL.out W1 (jnk _ _);obtain ⟨M,hM⟩:∃ M,M=(Nd.mk nm tx at_ ks).iO:=⟨_,rfl⟩;have HA:=hid hA;have Zd:=hid hck;have HTZ:=hid htz;have Ec:=hid hln;have HM:=hid hM;have BW:=hid bW;rw [<- hM];clear hA hck htz hln k0 bW hM;go_enter Tryz.func29,Tryz.ntmps29;go_upto_region 1 with (fail)
 rw [<- hW1,<- hS];clear hW1 hS;go_wp2_with fail
 (with_reducible refine CK.out.mono ?_)
 rintro e w2 ⟨rfl,b2⟩;obtain ⟨p,hp⟩:∃ p,p=w2.heap.size:=⟨_,rfl⟩;obtain ⟨w3,hw3⟩:∃ w3,w3=w2.alloc (.cells #[.pointer none,.slice none 0 0] 104):=⟨_,rfl⟩;have b3:jr0 w2.heap.size w2 w3:=by rw [hw3];exact (jnk _ _).alloc (jnq _) _
 have hbd:Bd p p [] w3:=by rw [hp,hw3];exact ⟨Lib.IsBuilderF.of (Lib.fresh_isBuilder 104 5 w2),by simp⟩
 have b13:=aU b2 b3;have bw3:=aU BW.out b13;have hpw:w.heap.size<=p:=by rw [hp];exact jnx BW.out.size b2.size
 have WC:Hid (Calls Tryz.prog 72 #[.pointer (some ⟨p,0,none⟩),.agg #[.string nm,.string tx,.slice a1 n1 c1,.slice a2 n2 c2]] w3 (xB p p ([]++(Nd.mk nm tx at_ ks).iO) (.tuple #[]) w3)):=
  LW p p _ (Nd.mk nm tx at_ ks) [] (.slice a1 n1 c1) (.slice a2 n2 c2) w3 (jnq _) Zd.out HTZ.out (HA.out.keep (fun b (hb:b<w.heap.size) _=>⟨Nat.lt_of_lt_of_le hb hpw,bw3.block b hb⟩)) hbd (by rw [List.length_nil,Nat.zero_add];exact Ec.out)
 have BW3:=hid bw3;have HPW:=hid hpw;obtain ⟨r0,r1,r2,r3⟩:=CL.out w3 b13;clear e0 e1 e2 e3 b2 b3 hbd b13 bw3 CK hpw;go_upto_region 5 with (fail)
 rw [<- hw3,<- hp];clear hw3 hp;go_wp2_with fail
 (with_reducible refine WC.out.mono ?_)
 rintro e w4 ⟨rfl,h4⟩;have ST:=hid (Tryz.Builder_String_any_k p p _ w4 h4.bd.1 h4.bd.2);have B4:Hid (jr0 w.heap.size w w4):=BW3.out.trans (h4.aN.mono HPW.out);have HPM:Hid (([]++(Nd.mk nm tx at_ ks).iO:List UInt8)=M):=by show _=_;rw [HM.out];rfl
 rw [HPM.out] at ST;have HPS:=hid HPW.out;clear h4 WC r0 r1 r2 r3;go_wp2_with fail
 (with_reducible refine ST.out.mono ?_)
 rintro e w5 ⟨rfl,-,b5,-⟩;have HF:Hid (jr0 w.heap.size w w5):=B4.out.trans (b5.mono HPS.out);clear b5;go_wp2
 go_ret2
 exact ⟨rfl,HF.out⟩
open Go.RowKit
theorem OY (me:List Pr) (l:List ah) (title lang:ByteArray) (h:OG me l title lang=0) (hs:SmB l) (h1:title.size<=300) (h2:lang.size<=300):(jd title lang (eB l)).kW=0/\(jd title lang (eB l)).tz/\(jd title lang (eB l)).iO.length<=1000000000000/\q01 (jd title lang (eB l)).nm=false:=by
 obtain ⟨g1,g2,g3,g4⟩:=OZ h;have e1:=OH g1;have e2:(ah.bg l).any fu=false:=by rw [ah.lS];exact g4
 have c:=LX title lang _ (eY g2) (FM (jC _ g3)) (LY qE l e1 e2);have t:=SY qE l title lang h1 h2 e1 e2 hs.sm (by rw [oK];exact hs.sz) hs.il;have m:=Nd.O4 _ c;exact ⟨c,Nd.Vt _ t,by omega,rfl⟩
theorem S9 (me:List Pr) (l:List ah) (vm vb:Value) (title lang:ByteArray) (w:jqz) (hm:Rd (·<w.heap.size) w (bD me) [vm]) (hb:Rd (·<w.heap.size) w (bZ l) [vb]) (XU:∀ p∈me,p.wf) (hwl:ah.uw l) (hml:me.length<=reachBytes) (hll:l.length<=reachBytes) (hti:title.size<=maxLen) (hla:lang.size<=maxLen) (ht:PT w) : Calls Tryz.prog 10 #[.agg #[vm,vb],.string title,.string lang] w (bX (.bool true) w):=by
 obtain ⟨am,nm,cm,rfl⟩:=Rd.au hm;obtain ⟨ab,nb,cb,rfl⟩:=Rd.au hb;obtain ⟨S,hS⟩:∃ S,S=w.heap.size:=⟨_,rfl⟩;obtain ⟨W0,hW0⟩:∃ W0,W0=w.alloc (.cells #[.slice am nm cm,.slice ab nb cb] 26):=⟨_,rfl⟩;have k0:CB 26 S [.slice am nm cm,.slice ab nb cb] W0:=by rw [hW0,hS];exact CB.new _ _ w
 have b0:jr0 w.heap.size w W0:=by rw [hW0];exact (jnk _ _).alloc (jnq _) _
 have SM:=hid (SN me l _ _ W0 (hm.up b0) (hb.up b0) XU hwl);have HM:=hid hm;have HB:=hid hb;have qX:Hid (∀ W,jr0 w.heap.size w W->PT W):=fun W hW=>ht.below hW
 have B0:=hid b0;have X0:Hid (∀ W:jqz,jr0 W0.heap.size W0 W->W.cell? ⟨S,0,none⟩=some (.slice am nm cm)/\W.cell? ⟨S,1,none⟩=some (.slice ab nb cb)):=fun W hW=>⟨(k0.below hW).cell 0 _ rfl,(k0.below hW).cell 1 _ rfl⟩
 have x0:=k0.cell 0 _ rfl;have x1:=k0.cell 1 _ rfl;clear hm hb XU hwl hml hll hti hla ht k0 b0;go_enter Tryz.func10,Tryz.ntmps10;go_upto_region 1 with (fail)
 rw [<- hW0,<- hS];clear hW0 hS;go_wp2_with fail
 (with_reducible refine SM.out.mono ?_)
 rintro e w1 ⟨b,rfl,hsm,b1⟩;have B1:=hid b1;have XV:=hid (aU B0.out b1);have AW:=hid (CU w1 (qX.out _ XV.out));clear x0 x1 b1 SM;cases b with
 | false=>
  clear hsm;go_wp2_with fail
  (with_reducible refine AW.out.mono ?_)
  rintro e w2 ⟨rfl,b2⟩;have HF:=hid (aU XV.out b2);clear b2;go_wp2;go_ret;exact ⟨rfl,HF.out⟩
 | true=>
  by_cases ht3:300<title.size
  ·have t1:(300:Int)<(title.size:Int):=by omega
   clear hsm;go_wp2_with fail
   (with_reducible refine AW.out.mono ?_)
   rintro e w2 ⟨rfl,b2⟩;have HF:=hid (aU XV.out b2);clear b2;go_wp2;go_ret;exact ⟨rfl,HF.out⟩
  ·have t1:¬ (300:Int)<(title.size:Int):=by omega
   by_cases hl3:300<lang.size
   ·have t2:(300:Int)<(lang.size:Int):=by omega
    clear hsm;go_wp2_with fail
    (with_reducible refine AW.out.mono ?_)
    rintro e w2 ⟨rfl,b2⟩;have HF:=hid (aU XV.out b2);clear b2;go_wp2;go_ret;exact ⟨rfl,HF.out⟩
   ·have t2:¬ (300:Int)<(lang.size:Int):=by omega
    obtain ⟨hd,hs⟩:=hsm rfl;have pF:∀ p∈me,p.key.size<=1000/\p.val.size<=1000:=fun p hp=>by have:=hd.jh1 p hp;omega
    have PC:=hid (AQ me l title lang _ _ w1 (HM.out.up XV.out) (HB.out.up XV.out) (by have:=hd.meta_;omega) pF (by have:=hs.al;omega) hs.sm (by have:=hs.sz;omega) (by have:=hs.il;omega) (ah.kU l hs.sm) (by omega) (by omega) (qX.out _ XV.out));have Zy:Hid (OG me l title lang=0->(Io me l title lang).kW=0/\(Io me l title lang).tz/\(Io me l title lang).iO.length<=1000000000000/\q01 (Io me l title lang).nm=false):=fun h=>by
     unfold Io;rw [if_pos h];exact OY me l title lang h hs (by omega) (by omega)
    obtain ⟨x0,x1⟩:=X0.out w1 B1.out;obtain ⟨X,hX⟩:∃ X,X=Io me l title lang:=⟨_,rfl⟩;obtain ⟨E,hE⟩:∃ E,E=OG me l title lang:=⟨_,rfl⟩;rw [<- hX,<- hE] at PC Zy;obtain ⟨xn,xt,xa,xk⟩:=X;have t3:decide ((300:Int)<(title.size:Int))=false:=decide_eq_false t1;have t4:decide ((300:Int)<(lang.size:Int))=false:=decide_eq_false t2;clear hsm hd hs pF hX hE AW;go_wp2_with fail
    (with_reducible refine PC.out.mono ?_)
    rintro e w2 ⟨va,vk,he,hN,b2⟩;obtain ⟨aA,nA,cA,rfl⟩:=Rd.au hN.at_
    obtain ⟨aK,nK,cK,rfl⟩:=Rd.au hN.ks;have he:e=.returned (.tuple #[.agg #[.string xn,.string xt,.slice aA nA cA,.slice aK nK cK],.int .i64 (E:Int)]):=he;subst he;obtain ⟨Bp,El⟩:∃ Bp,Bp=w2.heap.size:=⟨_,rfl⟩;obtain ⟨w3,hw3⟩:∃ w3,w3=w2.alloc (.cells #[.string xn,.string xt,.slice aA nA cA,.slice aK nK cK] 35):=⟨_,rfl⟩;have k3:CB 35 Bp [.string xn,.string xt,.slice aA nA cA,.slice aK nK cK] w3:=by rw [hw3,El];exact CB.new _ _ _
    have b23:jr0 w2.heap.size w2 w3:=by rw [hw3];exact (jnk _ _).alloc (jnq _) _
    have B3:=hid (aU (aU B1.out b2) b23);have B3w:=hid (aU B0.out B3.out);have K3:=hid k3;have NN:Hid (∀ W,jr0 w3.heap.size w3 W->gF (·<W.heap.size) W xa xk (.slice aA nA cA) (.slice aK nK cK)):=fun W hW=>
     ⟨Rd.keep (fun b _ h2=>⟨h2,rfl⟩) _ _ ((hN.at_.aV b23).aV hW),Rd.keep (fun b _ h2=>⟨h2,rfl⟩) _ _ ((hN.ks.aV b23).aV hW)⟩
    clear hN b2 b23 k3 PC x0 x1;go_upto_region 4 with (fail)
    rw [<- hw3,<- El];clear hw3 El;by_cases hE0:E=0;case neg=>
     have q1:((E:Int)==0)=false:=by simp [hE0]
     have AW:=hid (CU w3 (qX.out _ B3w.out));go_wp2_with fail
     (with_reducible refine AW.out.mono ?_)
     rintro e w7 ⟨rfl,b7⟩;have HF:=hid (aU B3w.out b7);clear b7 AW;go_wp2;go_ret;exact ⟨rfl,HF.out⟩
    subst hE0;obtain ⟨f1,f2,f3,f4⟩:=Zy.out rfl;have TXC:Hid (Calls Tryz.prog 29 #[.agg #[.string xn,.string xt,.slice aA nA cA,.slice aK nK cK]] w3 fun e w'=>e=.returned (.tuple #[.string (kJ (Nd.mk xn xt xa xk).iO),.int .i64 0])/\jr0 w3.heap.size w3 w'):=(OX (.mk xn xt xa xk) (.slice aA nA cA) (.slice aK nK cK) w3 f1 f2 (NN.out w3 (jnk _ _)) f3);obtain ⟨M,hM⟩:∃ M,M=kJ (Nd.mk xn xt xa xk).iO:=⟨_,rfl⟩;have hMs:M.size<=1000000000000:=by rw [hM,mM];exact f3
    have HPC:Hid (∀ W,Calls Tryz.prog 30 #[.string M] W fun e w'=>∃ va vk,e=.returned (.tuple #[.agg #[.string xn,.string xt,va,vk],.int .i64 M.size,.int .i64 0])/\gF (fun _=>True) w' xa xk va vk/\jr0 W.heap.size W w'):=fun W=>Iq (.mk xn xt xa xk) M W f1 f2 f4 (by rw [hM,kI]) hMs
    have CKC:Hid (∀ W,jr0 w3.heap.size w3 W->Calls Tryz.prog 26 #[.agg #[.string xn,.string xt,.slice aA nA cA,.slice aK nK cK]] W (bX (.int .i64 0) W)):=fun W hW=>E8 _ (.mk xn xt xa xk) _ _ W (jnq _) f1 f2 (NN.out W hW)
    rw [<- hM] at TXC;have KF:Hid (∀ W,jr0 w3.heap.size w3 W->W.cell? ⟨Bp,0,none⟩=some (.string xn)/\W.cell? ⟨Bp,1,none⟩=some (.string xt)/\W.cell? ⟨Bp,2,none⟩=some (.slice aA nA cA)/\W.cell? ⟨Bp,3,none⟩=some (.slice aK nK cK)):=fun W hW=>⟨(K3.out.below hW).cell 0 _ rfl,(K3.out.below hW).cell 1 _ rfl,(K3.out.below hW).cell 2 _ rfl,(K3.out.below hW).cell 3 _ rfl⟩
    obtain ⟨p0,p1,p2,p3⟩:=KF.out w3 (jnk _ _);clear f1 f2 f3 f4 hM hMs Zy;go_wp2_with fail
    (with_reducible refine TXC.out.mono ?_)
    rintro e w4 ⟨rfl,b4⟩;have B4:=hid b4;have PCW:=hid (HPC.out w4);clear b4 p0 p1 p2 p3 TXC HPC;go_wp2_with fail
    (with_reducible refine PCW.out.mono ?_)
    rintro e w5 ⟨va,vk,rfl,hN5,b5⟩;obtain ⟨aB,mB,cB,rfl⟩:=Rd.au hN5.at_
    obtain ⟨aL,mL,cL,rfl⟩:=Rd.au hN5.ks;obtain ⟨Bq,hBq⟩:∃ Bq,Bq=w5.heap.size:=⟨_,rfl⟩;obtain ⟨w6,mJ⟩:∃ w6,w6=w5.alloc (.cells #[.string xn,.string xt,.slice aB mB cB,.slice aL mL cL] 35):=⟨_,rfl⟩;have k6:CB 35 Bq [.string xn,.string xt,.slice aB mB cB,.slice aL mL cL] w6:=by rw [mJ,hBq];exact CB.new _ _ _
    have b56:jr0 w5.heap.size w5 w6:=by rw [mJ];exact (jnk _ _).alloc (jnq _) _
    have B6:=hid (aU (aU B4.out b5) b56);have K6:=hid k6;have NQ:Hid (∀ W,jr0 w6.heap.size w6 W->gF (·<W.heap.size) W xa xk (.slice aB mB cB) (.slice aL mL cL)):=fun W hW=>
     ⟨Rd.keep (fun b _ h2=>⟨h2,rfl⟩) _ _ ((hN5.at_.aV b56).aV hW),Rd.keep (fun b _ h2=>⟨h2,rfl⟩) _ _ ((hN5.ks.aV b56).aV hW)⟩
    have MU:=hid (CKC.out w6 B6.out);obtain ⟨p0,p1,p2,p3⟩:=KF.out w6 B6.out;clear hN5 b5 b56 k6 PCW CKC;go_upto_region 8 with (fail)
    rw [<- mJ,<- hBq];clear mJ hBq;go_wp2_with fail
    (with_reducible refine MU.out.mono ?_)
    rintro e w7 ⟨rfl,b7⟩;have B7:=hid (aU B6.out b7);have SC:Hid (Calls Tryz.prog 18 #[.agg #[.string xn,.string xt,.slice aB mB cB,.slice aL mL cL],.agg #[.string xn,.string xt,.slice aA nA cA,.slice aK nK cK]] w7 (Xd w7)):=
     Hz _ (.mk xn xt xa xk) _ _ _ _ w7 (jnq _) (NQ.out w7 b7) (NN.out w7 B7.out)
    clear p0 p1 p2 p3;obtain ⟨p0,p1,p2,p3⟩:=KF.out w7 B7.out;have k7:=K6.out.below b7;have r0:=k7.cell 0 _ rfl;have r1:=k7.cell 1 _ rfl;have r2:=k7.cell 2 _ rfl;have r3:=k7.cell 3 _ rfl;clear b7 k7 MU;go_wp2_with fail
    (with_reducible refine SC.out.mono ?_)
    rintro e w8 ⟨rfl,b8⟩;have B8w:=hid (aU (aU B3w.out B7.out) b8);have AW:=hid (CU w8 (qX.out _ B8w.out));clear b8 SC p0 p1 p2 p3 r0 r1 r2 r3;go_wp2_with fail
    (with_reducible refine AW.out.mono ?_)
    rintro e w9 ⟨rfl,b9⟩;have HF:=hid (aU B8w.out b9);clear b9 AW;go_wp2;go_ret;exact ⟨rfl,HF.out⟩
end Go.Proofs.YtkfnkeflalcphaaGreatDoor

