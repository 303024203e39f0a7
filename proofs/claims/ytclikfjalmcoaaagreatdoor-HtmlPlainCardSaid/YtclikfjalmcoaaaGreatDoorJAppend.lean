/- Contracts of tree.writePlain and tree.Plain. Appends onto rows of the call's own, the source nil or not (after the kit's page of words for memory), and how data read behind them. -/
import Derived.Test.YtclikfjalmcoaaaGreatDoorJFold
import Derived.Deep.AppendLies
set_option maxHeartbeats 4000000
set_option maxRecDepth 100000
open Go.Lib (hid)
namespace Go.Proofs.YtclikfjalmcoaaaGreatDoor
open List renaming append_assoc->jdq
open Go renaming Value->jfk
open Go.RowKit
set_option linter.unusedVariables false
set_option linter.unusedSimpArgs false
theorem Rd.below {B:Nat} {w w':World} {d:D} {cs:List jfk} (h:Rd (·<B) w d cs) (hb:Below B w w'):Rd (·<B) w' d cs:=
 Rd.keep (fun b hb1 _=>⟨hb1,hb.block b hb1⟩) d cs h
theorem oK.below {B:Nat} {w w':World} {k:Nat} {l:List D} {a:Option Addr} {cap:Nat} (h:oK (·<B) w k l a cap) (hb:Below B w w'):oK (·<B) w' k l a cap:=by
 refine ⟨h.le,h.max,fun hp=>?_⟩;obtain ⟨b,off,h1,h2,h3,h4⟩:=h.at_ hp
 refine ⟨b,off,h1,h2,FZ (hb.block b h2) h3,fun i d hd=>?_⟩;obtain ⟨r,hr,hl,hc⟩:=h4 i d hd;exact ⟨r,hr.below hb,hl,fun j u hu=>by rw [fJ (hb.block b h2)];exact hc j u hu⟩
theorem tQ (s:ByteArray):Lib.strCells s=Lib.byteCells s.data.toList:=by simp [Lib.strCells,Lib.byteCells]
def Bd (B b:Nat) (l:List UInt8) (w:World):Prop:=Lib.IsBuilderF 110 5 B b (Lib.byteCells l) w/\B<=w.heap.size
def Tz (B b:Nat) (pre:List UInt8) (l:List ah) (w:World) (vi:jfk) (wr:World):Prop:=
 ∃ k:Nat,k<=l.length/\vi=.int .i64 k/\Bd B b (pre++ah.aB (l.take k)) wr/\Below B w wr
def Qs (B b:Nat) (out:List UInt8) (w:World) (e:Ending) (w':World):Prop:=e=.returned (.tuple #[])/\Bd B b out w'/\Below B w w'
theorem tT (B b:Nat) (n:Nat):∀ (l:List ah) (pre:List UInt8) (v:jfk) (w:World),ah.aU l<=n->Rd (·<B) w (bC l) [v]->pre.length+(ah.aB l).length<=1000000000->Bd B b pre w -> Calls Tryz.prog 184 #[.pointer (some ⟨b,0,none⟩),v] w (Qs B b (pre++ah.aB l) w):=by
 induction n using Nat.strongRecOn with
 | _ n ih=>
  intro l pre v w hn hrd hlen hbd;obtain ⟨a,cap,hv,hs⟩:=Rd.aD hrd;obtain rfl:v=.slice a l.length cap:=by simpa using hv
  have hcap:l.length<=cap:=by simpa using hs.le
  have hmx:=hs.max;have HS:=hid hs;have HZ:Hid (pre++ah.aB (l.take 0)=pre):=by show pre++ah.aB []=pre;rw [ah.aB,List.append_nil]
  have IH:=hid ih;have HB:=hid hbd;clear hs hv hrd ih hbd;unfold maxLen at hmx;go_enter Tryz.func184,Tryz.ntmps184;go_wp2
  go_loopw [8] (fun vi wr=>Tz B b pre l w vi wr) (fun i _=>l.length-(intOf i).toNat)
  case atStart=>exact ⟨0,Nat.zero_le _,rfl,by rw [HZ.out];exact HB.out,Below.refl _ _⟩
  case round=>
   obtain ⟨k,hk,rfl,hbd,hbel⟩:=hrel;have iM:=hid hbd;clear hbd;by_cases hlt:k<l.length
   ·obtain ⟨x,hx⟩:∃ x,l[k]?=some x:=⟨_,List.getElem?_eq_getElem hlt⟩;obtain ⟨kd,t,d,ti,at_,ar,ci,ks⟩:=x;obtain ⟨g,off,vc,vp,va,vi,vk,rfl,hok,hbl,hc,hR⟩:=eF (HS.out.below hbel) hx;obtain ⟨c0,c1,c2,-,-,-,-,-,-,c9⟩:=hc;have tV:=hR.kids;have hsz:=ah.bD l k _ hx;rw [ah.sz] at hsz;have HT:=hid (ah.lN l k _ hx);have hle:=ah.Bc l k _ hx;have ik:=fun p h1 h2=>IH.out (ah.aU ks) (by omega) ks p vk wr (Nat.le_refl _) tV h1 h2
    have IK:=hid ik;clear hx tV hR ik;have hpl:(pre++ah.aB (l.take k)).length=pre.length+(ah.aB (l.take k)).length:=by simp
    generalize hacc:ah.aB (l.take k)=acc at *;generalize hacc':ah.aB (l.take (k+1))=acc' at *;have qB:=hid hacc';clear hacc hacc';obtain ⟨P,hP⟩:∃ P,P=pre++acc:=⟨_,rfl⟩;have HP:=hid hP;rw [<- hP] at iM hpl;clear hP;have WS:=hid (fun (s:ByteArray) (h:P.length+s.size<=1000000000)=>(wT B b (Lib.byteCells P) s wr iM.out.1 (by rw [Lib.byteCells_length];omega) iM.out.2).mono fun _ w' ⟨he,hw⟩=>(⟨he,⟨by rw [Lib.byteCells_append,<- tQ];exact hw.1,Nat.le_trans iM.out.2 hw.2.1.size⟩,hw.2.1⟩:_/\Bd B b (P++s.data.toList) w'/\Below B wr w'));have WB:=hid (fun (h:P.length+1<=1000000000)=>(jl B b (Lib.byteCells P) 32 wr iM.out.1 (by rw [Lib.byteCells_length];omega) iM.out.2).mono fun _ w' ⟨he,hw⟩=>(⟨he,⟨by rw [Lib.byteCells_append];exact hw.1,Nat.le_trans iM.out.2 hw.2.1.size⟩,hw.2.1⟩:_/\Bd B b (P++[32]) w'/\Below B wr w'));have nU:=hid (fun h=>IK.out P h iM.out);clear IK;rcases rF kd with (rfl | rfl | rfl) | (rfl | rfl) | (rfl | rfl | rfl | rfl | rfl | rfl) | rfl | h
    ·have hp:(ah.mk 1 t d ti at_ ar ci ks).plain=t.data.toList:=by rw [ah.plain];simp
     rw [hp] at HT hle;have W1:=hid (WS.out t (by rw [Lib.size_eq];omega));clear hp hle WS WB nU;go_wp2_with fail
     refine W1.out.mono ?_;rintro e w1 ⟨rfl,B1,b1⟩;have HB1:=hid B1;clear B1;go_wp2;go_roundw;case rel=>exact ⟨k+1,by omega,by go_num,by rw [qB.out,HT.out,<- jdq,<- HP.out];exact HB1.out,hbel.trans b1⟩
     case measure=>simp [intOf];omega
    ·have hp:(ah.mk 4 t d ti at_ ar ci ks).plain=t.data.toList:=by rw [ah.plain];simp
     rw [hp] at HT hle;have W1:=hid (WS.out t (by rw [Lib.size_eq];omega));clear hp hle WS WB nU;go_wp2_with fail
     refine W1.out.mono ?_;rintro e w1 ⟨rfl,B1,b1⟩;have HB1:=hid B1;clear B1;go_wp2;go_roundw;case rel=>exact ⟨k+1,by omega,by go_num,by rw [qB.out,HT.out,<- jdq,<- HP.out];exact HB1.out,hbel.trans b1⟩
     case measure=>simp [intOf];omega
    ·have hp:(ah.mk 5 t d ti at_ ar ci ks).plain=t.data.toList:=by rw [ah.plain];simp
     rw [hp] at HT hle;have W1:=hid (WS.out t (by rw [Lib.size_eq];omega));clear hp hle WS WB nU;go_wp2_with fail
     refine W1.out.mono ?_;rintro e w1 ⟨rfl,B1,b1⟩;have HB1:=hid B1;clear B1;go_wp2;go_roundw;case rel=>exact ⟨k+1,by omega,by go_num,by rw [qB.out,HT.out,<- jdq,<- HP.out];exact HB1.out,hbel.trans b1⟩
     case measure=>simp [intOf];omega
    ·have hp:(ah.mk 2 t d ti at_ ar ci ks).plain=[32]:=by rw [ah.plain];simp
     rw [hp] at HT hle;simp only [List.length_cons,List.length_nil] at hle;have W1:=hid (WB.out (by omega));clear hp hle WS WB nU;go_wp2_with fail
     refine W1.out.mono ?_;rintro e w1 ⟨rfl,B1,b1⟩;have HB1:=hid B1;clear B1;go_wp2;go_roundw;case rel=>exact ⟨k+1,by omega,by go_num,by rw [qB.out,HT.out,<- jdq,<- HP.out];exact HB1.out,hbel.trans b1⟩
     case measure=>simp [intOf];omega
    ·have hp:(ah.mk 3 t d ti at_ ar ci ks).plain=[32]:=by rw [ah.plain];simp
     rw [hp] at HT hle;simp only [List.length_cons,List.length_nil] at hle;have W1:=hid (WB.out (by omega));clear hp hle WS WB nU;go_wp2_with fail
     refine W1.out.mono ?_;rintro e w1 ⟨rfl,B1,b1⟩;have HB1:=hid B1;clear B1;go_wp2;go_roundw;case rel=>exact ⟨k+1,by omega,by go_num,by rw [qB.out,HT.out,<- jdq,<- HP.out];exact HB1.out,hbel.trans b1⟩
     case measure=>simp [intOf];omega
    ·have hp:(ah.mk 6 t d ti at_ ar ci ks).plain=ah.aB ks:=by rw [ah.plain];simp
     rw [hp] at HT hle;have W1:=hid (nU.out (by omega));clear hp hle WS WB nU;generalize ah.aB ks=pk at *;go_wp2_with fail
     refine W1.out.mono ?_;rintro e w1 ⟨rfl,B1,b1⟩;have HB1:=hid B1;clear B1;go_wp2;go_roundw;case rel=>exact ⟨k+1,by omega,by go_num,by rw [qB.out,HT.out,<- jdq,<- HP.out];exact HB1.out,hbel.trans b1⟩
     case measure=>simp [intOf];omega
    ·have hp:(ah.mk 7 t d ti at_ ar ci ks).plain=ah.aB ks:=by rw [ah.plain];simp
     rw [hp] at HT hle;have W1:=hid (nU.out (by omega));clear hp hle WS WB nU;generalize ah.aB ks=pk at *;go_wp2_with fail
     refine W1.out.mono ?_;rintro e w1 ⟨rfl,B1,b1⟩;have HB1:=hid B1;clear B1;go_wp2;go_roundw;case rel=>exact ⟨k+1,by omega,by go_num,by rw [qB.out,HT.out,<- jdq,<- HP.out];exact HB1.out,hbel.trans b1⟩
     case measure=>simp [intOf];omega
    ·have hp:(ah.mk 8 t d ti at_ ar ci ks).plain=ah.aB ks:=by rw [ah.plain];simp
     rw [hp] at HT hle;have W1:=hid (nU.out (by omega));clear hp hle WS WB nU;generalize ah.aB ks=pk at *;go_wp2_with fail
     refine W1.out.mono ?_;rintro e w1 ⟨rfl,B1,b1⟩;have HB1:=hid B1;clear B1;go_wp2;go_roundw;case rel=>exact ⟨k+1,by omega,by go_num,by rw [qB.out,HT.out,<- jdq,<- HP.out];exact HB1.out,hbel.trans b1⟩
     case measure=>simp [intOf];omega
    ·have hp:(ah.mk 9 t d ti at_ ar ci ks).plain=ah.aB ks:=by rw [ah.plain];simp
     rw [hp] at HT hle;have W1:=hid (nU.out (by omega));clear hp hle WS WB nU;generalize ah.aB ks=pk at *;go_wp2_with fail
     refine W1.out.mono ?_;rintro e w1 ⟨rfl,B1,b1⟩;have HB1:=hid B1;clear B1;go_wp2;go_roundw;case rel=>exact ⟨k+1,by omega,by go_num,by rw [qB.out,HT.out,<- jdq,<- HP.out];exact HB1.out,hbel.trans b1⟩
     case measure=>simp [intOf];omega
    ·have hp:(ah.mk 10 t d ti at_ ar ci ks).plain=ah.aB ks:=by rw [ah.plain];simp
     rw [hp] at HT hle;have W1:=hid (nU.out (by omega));clear hp hle WS WB nU;generalize ah.aB ks=pk at *;go_wp2_with fail
     refine W1.out.mono ?_;rintro e w1 ⟨rfl,B1,b1⟩;have HB1:=hid B1;clear B1;go_wp2;go_roundw;case rel=>exact ⟨k+1,by omega,by go_num,by rw [qB.out,HT.out,<- jdq,<- HP.out];exact HB1.out,hbel.trans b1⟩
     case measure=>simp [intOf];omega
    ·have hp:(ah.mk 11 t d ti at_ ar ci ks).plain=ah.aB ks:=by rw [ah.plain];simp
     rw [hp] at HT hle;have W1:=hid (nU.out (by omega));clear hp hle WS WB nU;generalize ah.aB ks=pk at *;go_wp2_with fail
     refine W1.out.mono ?_;rintro e w1 ⟨rfl,B1,b1⟩;have HB1:=hid B1;clear B1;go_wp2;go_roundw;case rel=>exact ⟨k+1,by omega,by go_num,by rw [qB.out,HT.out,<- jdq,<- HP.out];exact HB1.out,hbel.trans b1⟩
     case measure=>simp [intOf];omega
    ·have hp:(ah.mk 16 t d ti at_ ar ci ks).plain=d.data.toList:=by rw [ah.plain];simp
     rw [hp] at HT hle;have W1:=hid (WS.out d (by rw [Lib.size_eq];omega));clear hp hle WS WB nU;go_wp2_with fail
     refine W1.out.mono ?_;rintro e w1 ⟨rfl,B1,b1⟩;have HB1:=hid B1;clear B1;go_wp2;go_roundw;case rel=>exact ⟨k+1,by omega,by go_num,by rw [qB.out,HT.out,<- jdq,<- HP.out];exact HB1.out,hbel.trans b1⟩
     case measure=>simp [intOf];omega
    ·obtain ⟨h1,h4,h5,h2,h3,h6,h7,h8,h9,h10,h11,h16⟩:=h;have hp:(ah.mk kd t d ti at_ ar ci ks).plain=[]:=by rw [ah.plain];simp [h1,h2,h3,h4,h5,h6,h7,h8,h9,h10,h11,h16]
     rw [hp] at HT;have f1:=beq_false_of_ne h1;have f2:=beq_false_of_ne h2;have f3:=beq_false_of_ne h3;have f4:=beq_false_of_ne h4;have f5:=beq_false_of_ne h5;have f6:=beq_false_of_ne h6;have f7:=beq_false_of_ne h7;have f8:=beq_false_of_ne h8;have f9:=beq_false_of_ne h9;have f10:=beq_false_of_ne h10;have f11:=beq_false_of_ne h11;have f16:=beq_false_of_ne h16;clear hp h1 h2 h3 h4 h5 h6 h7 h8 h9 h10 h11 h16 hle WS WB nU;go_wp2;go_roundw;case rel=>exact ⟨k+1,by omega,by go_num,by rw [qB.out,HT.out,List.append_nil,<- HP.out];exact iM.out,hbel⟩
     case measure=>simp [intOf];omega
   ·have hkl:k=l.length:=by omega
    have hE:ah.aB (l.take k)=ah.aB l:=by rw [hkl,List.take_length]
    rw [hE] at iM;clear hkl hE;go_wp2
    go_end0
    exact ⟨rfl,iM.out,hbel⟩
theorem D8 (l:List ah) (v:jfk) (w:World) (h:Rd (·<w.heap.size) w (bC l) [v]) (hlen:(ah.aB l).length<=1000000000) : Calls Tryz.prog 151 #[v] w fun e w'=>e=.returned (.string ⟨(ah.aB l).toArray⟩)/\Below w.heap.size w w':=by
 have b0:Below w.heap.size w (w.alloc (.cells #[.pointer none,.slice none 0 0] 110)):=(Below.refl _ w).alloc (Nat.le_refl _) _;have WP:=hid (tT w.heap.size w.heap.size _ l [] v _ (Nat.le_refl _) (h.below b0) (by simpa using hlen) ⟨Lib.IsBuilderF.of (Lib.fresh_isBuilder 110 5 w),by simp⟩);have B0:=hid b0;clear h b0;go_enter Tryz.func151,Tryz.ntmps151;go_wp2_with fail
 refine WP.out.mono ?_;rintro e w1 ⟨rfl,hB,hb⟩;have ST:=hid (Tryz.Builder_String_any_k w.heap.size w.heap.size _ w1 hB.1 hB.2);clear hB WP;go_wp2_with fail
 refine ST.out.mono ?_;rintro e w2 ⟨rfl,-,b2,-⟩;go_wp2;go_ret;exact ⟨rfl,(B0.out.trans hb).trans b2⟩
open Go.RowKit
theorem y9 (a:Addr) (n:Nat):(a.add n).block=a.block:=by unfold Addr.add;split<;>rfl
def Reads (w:World) (B size:Nat) (A:Option Addr) (n:Nat) (xs:List jfk):Prop:=
 xs.length=n*size/\(0<n->∃ ad,A=some ad/\ad.block<B/\∀ j u,xs[j]?=some u->w.cell? (ad.add j)=some u)
section
variable {w w':World} {B B' size n:Nat} {A:Option Addr} {xs:List jfk}
theorem Reads.keep (h:Reads w B size A n xs) (hk:∀ p:Addr,p.block<B->w'.cell? p=w.cell? p):Reads w' B size A n xs:=
 ⟨h.1,fun hn=>by
  obtain ⟨ad,e,hb,hc⟩:=h.2 hn;exact ⟨ad,e,hb,fun j u hu=>(hk _ (by rw [y9];exact hb)).trans (hc j u hu)⟩⟩
theorem Reads.more (h:Reads w B size A n xs) (hB:B<=B'):Reads w B' size A n xs:=
 ⟨h.1,fun hn=>by
  obtain ⟨ad,e,hb,hc⟩:=h.2 hn;exact ⟨ad,e,by omega,hc⟩⟩
theorem Reads.below (h:Reads w B size A n xs) (hb:Below B w w'):Reads w' B size A n xs:=h.keep fun _ hp=>hb.cell hp
theorem Reads.D9 {base:Nat} {e:TypeId} {c:Nat} (h:w.ownsRow base e size (.slice A n c) n xs):Reads w w.heap.size size A n xs:=by
 refine ⟨h.1,fun hn=>?_⟩;obtain ⟨g,cap,hv,_,hlt⟩:=h.form hn;have hA:A=some ⟨g,0,none⟩:=by injection hv
 subst hA;exact ⟨_,rfl,hlt,h.cells (g:=g) rfl⟩
end
section
variable {P:Program} (w:World)
theorem oL (base:Nat) (t ty e:TypeId) (i:TypeInfo) (size:Nat) (ht:P.underlying t=some (.slice e)) (hi:P.info? e=some i) (v:jfk) (n:Nat) (xs:List jfk) (hown:w.ownsRow base e size v n xs) (c:Nat):(Builtin.append_ #[t,t] ty #[v,.slice none 0 c]).run P w=.ok v w:=by
 rcases hown.2 with ⟨rfl,rfl⟩ | ⟨g,cap,cur,rfl,_,_,hnc,_⟩
 ·simp [Builtin.append_,run_underlying ht,sizeOf,typeInfo,hi,Builtin.lenOf,Builtin.firstCells]
 ·simp [Builtin.append_,run_underlying ht,sizeOf,typeInfo,hi,Builtin.lenOf,Builtin.firstCells,hnc,storeCells]
theorem tX (base:Nat) (t ty e:TypeId) (i:TypeInfo) (z:jfk) (size bytes:Nat) (ht:P.underlying t=some (.slice e)) (hi:P.info? e=some i) (hz:i.zero=some z) (hsize:i.size=size) (hby:i.bytes=bytes) (hzs:z.cells.size=size) (hsz:0<size) (v:jfk) (n:Nat) (xs:List jfk) (hown:w.ownsRow base e size v n xs) (B:Nat) (A:Option Addr) (m c:Nat) (news:List jfk) (hr:Reads w B size A m news) (h1:∀ u∈news,u.oneCell'=true) (h63:n+m<=maxLen) (hbytes:(n+m)*bytes<=140737488355328) (hbase:base<=w.heap.size) : ∃ v' w',(Builtin.append_ #[t,t] ty #[v,.slice A m c]).run P w=.ok v' w'/\w'.ownsRow base e size v' (n+m) (xs++news)/\w.grownBy w' v.ownBlock /\ (v'.ownBlock=v.ownBlock\/v'.ownBlock=some w.heap.size):=by
 rcases A with _ | ad
 ·have hm:m=0:=by
   rcases Nat.eq_zero_or_pos m with h0 | h0
   ·exact h0
   ·obtain ⟨ad,h,_⟩:=hr.2 h0;cases h
  subst hm;have hn:news=[]:=List.eq_nil_of_length_eq_zero (by simpa using hr.1);subst hn;exact ⟨v,w,oL w base t ty e i size ht hi v n xs hown c,by simpa using hown,World.grownBy.refl w _,.inl rfl⟩
 ·have hcells:∀ j u,news[j]?=some u->w.cell? (ad.add j)=some u:=by
   intro j u hu;rcases Nat.eq_zero_or_pos m with h0 | h0
   ·subst h0;have hn:news=[]:=List.eq_nil_of_length_eq_zero (by simpa using hr.1);subst hn;simp at hu
   ·obtain ⟨ad',h,_,hc⟩:=hr.2 h0;injection h with h
    subst h;exact hc j u hu
  obtain ⟨v',w',hrun,h2,h3,_,h5⟩:=run_append_own_at (P:=P) w base t ty e i z size bytes ht hi hz hsize hby hzs hsz v n xs hown ad m c news hr.1 hcells h1 h63 hbytes hbase;exact ⟨v',w',hrun,h2,h3,h5⟩
theorem nG {o:Oper} {a:Act} {K:Act->World->Prop} {Q:Exit->Act->World->Prop} (s x:Operand) (t:TypeId) (ho:o.op=.call { callee:=.builtin .append,args:=#[s,x],argTypes:=#[t,t] }) (base:Nat) (e:TypeId) (i:TypeInfo) (z:jfk) (size bytes:Nat) (ht:P.underlying t=some (.slice e)) (hi:P.info? e=some i) (hz:i.zero=some z) (hsize:i.size=size) (hby:i.bytes=bytes) (hzs:z.cells.size=size) (hsz:0<size) (v:jfk) (n:Nat) (xs:List jfk) (hs:a.eval s=v) (hown:w.ownsRow base e size v n xs) (B:Nat) (A:Option Addr) (m c:Nat) (news:List jfk) (hx:a.eval x=.slice A m c) (hr:Reads w B size A m news) (h1:∀ u∈news,u.oneCell'=true) (h63:n+m<=maxLen) (hbytes:(n+m)*bytes<=140737488355328) (hbase:base<=w.heap.size) (h:∀ v' w',w'.ownsRow base e size v' (n+m) (xs++news)->w.grownBy w' v.ownBlock->(v'.ownBlock=v.ownBlock\/v'.ownBlock=some w.heap.size)->K (a.put o.dst v') w'):o.wp P a w K Q:=by obtain ⟨v',w',hrun,h2,h3,h4⟩:=tX (P:=P) w base t o.type e i z size bytes ht hi hz hsize hby hzs hsz v n xs hown B A m c news hr h1 h63 hbytes hbase;unfold Oper.wp execOp;simp only [ho,resolve,invoke,builtin,Sem.run_bind,Sem.run_pure,Result.andThen_ok,List.map_toArray,List.map_cons,List.map_nil,hs,hx,hrun];exact h v' w' h2 h3 h4
theorem MJ {ops:Array Oper} {rest:List Oper} {o:Oper} {a:Act} {Q:Exit->Act->World->Prop} (hgd:o.guard=none) (s x:Operand) (t:TypeId) (ho:o.op=.call { callee:=.builtin .append,args:=#[s,x],argTypes:=#[t,t] }) (base:Nat) (e:TypeId) (i:TypeInfo) (z:jfk) (size bytes:Nat) (ht:P.underlying t=some (.slice e)) (hi:P.info? e=some i) (hz:i.zero=some z) (hsize:i.size=size) (hby:i.bytes=bytes) (hzs:z.cells.size=size) (hsz:0<size) (v:jfk) (n:Nat) (xs:List jfk) (hs:a.eval s=v) (hown:w.ownsRow base e size v n xs) (B:Nat) (A:Option Addr) (m c:Nat) (news:List jfk) (hx:a.eval x=.slice A m c) (hr:Reads w B size A m news) (h1:∀ u∈news,u.oneCell'=true) (h63:n+m<=maxLen) (hbytes:(n+m)*bytes<=140737488355328) (hbase:base<=w.heap.size) (h:∀ v' w',w'.ownsRow base e size v' (n+m) (xs++news)->w.grownBy w' v.ownBlock->(v'.ownBlock=v.ownBlock\/v'.ownBlock=some w.heap.size)->wpList P ops Q rest (a.put o.dst v') w'):wpList P ops Q (o::rest) a w:=
 wpList_plain hgd fun _ hK=>nG w s x t ho base e i z size bytes ht hi hz hsize hby hzs hsz v n xs hs hown B A m c news hx hr h1 h63 hbytes hbase fun v' w' h2 h3 h4=>hK _ _ (h v' w' h2 h3 h4)
theorem sJ {ops:Array Oper} {o:Oper} {a:Act} {K:Act->World->Prop} {Q:Exit->Act->World->Prop} {E:Prop} (hgd:o.guard=none) (s x:Operand) (t:TypeId) (ho:o.op=.call { callee:=.builtin .append,args:=#[s,x],argTypes:=#[t,t] }) (base:Nat) (e:TypeId) (i:TypeInfo) (z:jfk) (size bytes:Nat) (ht:P.underlying t=some (.slice e)) (hi:P.info? e=some i) (hz:i.zero=some z) (hsize:i.size=size) (hby:i.bytes=bytes) (hzs:z.cells.size=size) (hsz:0<size) (v:jfk) (n:Nat) (xs:List jfk) (hs:a.eval s=v) (hown:w.ownsRow base e size v n xs) (B:Nat) (A:Option Addr) (m c:Nat) (news:List jfk) (hx:a.eval x=.slice A m c) (hr:Reads w B size A m news) (h1:∀ u∈news,u.oneCell'=true) (h63:n+m<=maxLen) (hbytes:(n+m)*bytes<=140737488355328) (hbase:base<=w.heap.size) (h:∀ v' w',w'.ownsRow base e size v' (n+m) (xs++news)->w.grownBy w' v.ownBlock->(v'.ownBlock=v.ownBlock\/v'.ownBlock=some w.heap.size)->K (a.put o.dst v') w') : if Region.wanted o (yielded ops a.tmps)=true then Oper.wp P o a w K Q else E:=by
 have hw:Region.wanted o (yielded ops a.tmps)=true:=by simp [Region.wanted,hgd]
 rw [if_pos hw];exact nG w s x t ho base e i z size bytes ht hi hz hsize hby hzs hsz v n xs hs hown B A m c news hx hr h1 h63 hbytes hbase h
end
theorem Rd.reads {B:Nat} {w:World} {k:Nat} {l:List D} {v:jfk} (h:Rd (·<B) w (.sl k l) [v]):∃ A cap rows,v=.slice A l.length cap/\l.length<=cap/\cap<=maxLen/\aO (·<B) w l rows/\(∀ r∈rows,r.length=k)/\Reads w B k A l.length rows.flatten:=by
 unfold Rd at h;obtain ⟨a,cap,rows,h1,h2,h3,h4,h5,h6⟩:=h;refine ⟨a,cap,rows,by simpa using h1,h2,h3,h4,h5,?_,fun hp=>?_⟩
 ·rw [jL k rows h5,h4.len]
 ·rcases h6 with h6 | ⟨b,off,h7,h8,hb,h9⟩
  ·omega
  ·refine ⟨⟨b,off,none⟩,h7,h8,fun j u hu=>?_⟩;have e:((⟨b,off,none⟩:Addr).add j)=⟨b,off+j,none⟩:=by unfold Addr.add;split<;>simp_all
   rw [e];exact h9 j u hu
end Go.Proofs.YtclikfjalmcoaaaGreatDoor

