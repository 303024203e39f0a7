/- Contracts of publisherref01.Text, Points, Fold. -/
import Derived.Test.YtkfnkeflalcphaaGreatDoorMAppend
import Derived.WalkSpells
set_option maxHeartbeats 2000000
set_option maxRecDepth 100000
open Go.Lib (hid)
namespace Go.Proofs.YtkfnkeflalcphaaGreatDoor
open Tryz
open List renaming length_append->jKq
open Go.RowKit
set_option linter.unusedVariables false
set_option linter.unusedSimpArgs false
theorem jAj:(prog.info? 3).map (fun i=>(i.zero,i.size,i.bytes))=some (some (.int .i64 0),1,8):=by kernel_rfl
theorem infoP:(prog.info? 138).map (fun i=>(i.zero,i.size,i.bytes))=some (some (.agg #[.int .i64 0,.int .i64 0]),2,16):=by kernel_rfl
theorem Xh {w:World} {B:Nat} {v:Value} {l:List UInt8} (h:w.ownsRow B 5 1 v l.length (Lib.byteCells l)) : (convert 102 9 v).run prog w=.ok (.string ⟨l.toArray⟩) w:=by
 rcases h.2 with ⟨rfl,h0⟩ | ⟨g,cap,cur,rfl,_⟩
 ·rw [run_convert_bytes_nil w 102 5 underlying102 underlying5 0 0 9 underlying9];obtain rfl:=List.length_eq_zero_iff.1 h0;rfl
 ·refine run_convert_bytes_back w 102 9 5 ⟨g,0,none⟩ cap l underlying102 underlying5 underlying9 (fun j hj=>?_);exact h.cells rfl j _ (by simp [Lib.byteCells,hj])
def BU (l:List Nat):List Value:=l.map fun (c:Nat)=>Value.int .i64 (c:Int)
def jAk (w wr:World) (l:List Nat) (v vi:Value):Prop:=
 ∃ k:Nat,k<=l.length/\vi=.int .i64 k/\wr.ownsRow w.heap.size 5 1 v (dM (l.take k)).length (Lib.byteCells (dM (l.take k)))/\Below w.heap.size w wr
theorem RQ (l:List Nat) (k c:Nat) (h:l[k]?=some c):dM (l.take (k+1))=dM (l.take k)++Lib.encodeRune (c:Int):=by rw [List.take_add_one,h,zw];simp [zx]
theorem RU (l:List Nat) (v:Value) (w:World) (hs:Dt w 1 v l.length (BU l)) (hl:l.length<=100000000000) (hc:∀ c∈l,c<=1114111) : Calls prog 248 #[v] w fun e w'=>e=.returned (.string ⟨(dM l).toArray⟩)/\Below w.heap.size w w':=by
 obtain ⟨i0,hi,hz0,hz1,hz2⟩:=info_parts Gj;obtain ⟨-,a,cap,rfl,hcap,hmx,hcs⟩:=hs;have HC:=hid hc;have LB:=hid hcs;clear hc hcs;unfold maxLen at hmx;go_enter func248,ntmps248;go_wp2
 go_loopw [3,8] (fun v vi wr=>jAk w wr l v vi) (fun _ i _=>l.length-(intOf i).toNat)
 case atStart=>exact ⟨0,Nat.zero_le _,rfl,⟨rfl,.inl ⟨rfl,rfl⟩⟩,Below.refl _ _⟩
 case round=>
  obtain ⟨k,hk,rfl,hown,hbel⟩:=hrel;have HO:=hid hown;clear hown;by_cases hlt:k<l.length
  ·obtain ⟨c,hx⟩:∃ c,l[k]?=some c:=⟨_,List.getElem?_eq_getElem hlt⟩;rcases LB.out with h0 | ⟨b,off,rfl,hcell⟩
   ·omega
   have k0:=hcell k (.int .i64 (c:Int)) (by simp [BU,hx]);have c0:wr.cell? ⟨b,off+k,none⟩=some (.int .i64 (c:Int)):=by rw [hbel.cell (p:=⟨b,off+k,none⟩) (nX k0)];exact k0
   have RB:=hid (fun w=>Nv c w (HC.out c (List.mem_of_getElem? hx)));have HT:=hid (RQ l k c hx);have hel:=(nR (l.take k)).2;have htl:(l.take k).length<=k:=List.length_take_le _ _;have hrl:=Lib.runeCells_le (c:Int);have vL:=hid (Lib.byteCells_encodeRune (c:Int));have hone:∀ u∈Lib.runeCells (c:Int),u.oneCell'=true:=by intro u hu;unfold Lib.runeCells at hu;obtain ⟨x,_,rfl⟩:=List.mem_map.1 hu;rfl
   have jFk:=hid hone;generalize dM (l.take k)=acc at *;generalize hac:dM (l.take (k+1))=acc' at *;have HAC:=hid hac;generalize hrc:Lib.runeCells (c:Int)=rc at *;have O9:=hid hrc;clear hx hac k0 hrc hcell hone;go_wp2_with fail
   refine (RB.out _).mono ?_;rintro e w1 ⟨g,cg,rfl,hcg,hge,hcells,hb1⟩;have hown1:=UW HO.out hb1;have xW:=q01 hbel hb1;have hsz1:=xW.size;have HCC:=hid hcells;clear hcells;go_wp2_with (at_builtin;refine wpList_append_own _ rfl _ _ 102 rfl w.heap.size 5 i0 (.int .u8 0) 1 1 underlying102 hi hz0 hz1 hz2 rfl (by decide) _ _ _ rfl hown1 ⟨g,0,none⟩ rc.length cg rc rfl ?c0 ?c1 ?c2 ?c3 ?c4 ?c5 ?_)
   case c0=>simp
   case c1=>exact HCC.out
   case c2=>exact jFk.out
   case c3=>unfold maxLen;omega
   case c4=>omega
   case c5=>omega
   intro v' w3 hown' hgrow _;have Xi:Below w.heap.size w w3:=xW.grown hgrow hsz1 (fun j hj=>(hown1.lt j hj).1);have HO3:=hid hown';clear hown' hgrow hown1;go_wp2;go_roundw;case rel=>
    refine ⟨k+1,by omega,by go_num,?_,Xi⟩;have e1:(dM (l.take (k+1))).length=acc.length+rc.length:=by rw [HAC.out,HT.out,jKq,<- O9.out,Lib.runeCells_length]
    rw [e1,HAC.out,HT.out,Lib.byteCells_append,vL.out];exact HO3.out
   case measure=>simp [intOf];omega
  ·have hkl:k=l.length:=by omega
   have hO:=HO.out;rw [hkl,List.take_length] at hO;have hcv:=Xh hO;clear hO HO hkl;go_wp2;go_ret;exact ⟨rfl,hbel⟩
def dD (s:ByteArray):Nat->Nat->List (Nat × Nat)
 | 0,_=>[]
 | f+1,i=>if i<s.size then Utf8.decode s i::dD s f (i+(Utf8.decode s i).2) else []
theorem sD (s:ByteArray):∀ (f i:Nat),(dD s f i).map (·.1)=gH s f i
 | 0,_=>rfl
 | f+1,i=>by
  rw [dD,gH];split
  ·rw [List.map_cons,sD s f]
  ·rfl
theorem jR (s:ByteArray) (f i:Nat) (h:¬ i<s.size):dD s f i=[]:=by
 cases f with
 | zero=>rfl
 | succ f=>rw [dD,if_neg h]
theorem Kn (s:ByteArray) (f i:Nat):(dD s f i).length<=s.size-i:=by have h:=congrArg List.length (sD s f i);rw [List.length_map] at h;rw [h];exact BK s f i
theorem yZ (s:ByteArray):∀ (f i:Nat),∀ p∈dD s f i,p.1<=1114111
 | 0,_=>by simp [dD]
 | f+1,i=>by
  rw [dD];split
  ·intro p hp;rcases List.mem_cons.1 hp with rfl | hp
   ·exact Lib.rune_le s i
   ·exact yZ s f _ p hp
  ·simp
def pts (s:ByteArray):List (Nat × Nat):=dD s s.size 0
theorem RX (s:ByteArray):(pts s).map (·.1)=runes s:=sD s _ _
def Fw (p:Nat × Nat):List Value:=[.int .i64 (p.1:Int),.int .i64 (p.2:Int)]
def mW (l:List (Nat × Nat)):List (List Value):=l.map Fw
theorem Ko (l:List (Nat × Nat)):∀ r∈mW l,r.length=2:=by intro r hr;obtain ⟨p,_,rfl⟩:=List.mem_map.1 hr;rfl
theorem Kq (l:List (Nat × Nat)) (p:Nat × Nat):(mW (l++[p])).flatten=(mW l).flatten++Fw p:=by simp [mW]
def jAq (w wr:World) (s:ByteArray) (R:List (Nat × Nat)) (v vi:Value):Prop:=
 ∃ (i f:Nat) (acc:List (Nat × Nat)),i<=s.size/\s.size<=i+f/\acc.length<=i/\acc++dD s f i=R/\vi=.int .i64 i/\wr.ownsRow w.heap.size 138 2 v acc.length (mW acc).flatten/\Below w.heap.size w wr
theorem xX (s:ByteArray) (w:World) (hs:s.size<=10000000000) : Calls prog 107 #[.string s] w fun e w'=>∃ v,e=.returned v/\w'.ownsRow w.heap.size 138 2 v (pts s).length (mW (pts s)).flatten/\Below w.heap.size w w':=by
 obtain ⟨i0,hi,hz0,hz1,hz2⟩:=info_parts infoP;obtain ⟨R,hR⟩:∃ R,R=pts s:=⟨_,rfl⟩;rw [<- hR];have HR:Hid ([]++dD s s.size 0=R):=by rw [hR];rfl
 clear hR;go_enter func107,ntmps107;go_wp2
 go_loopw [3,4] (fun v vi wr=>jAq w wr s R v vi) (fun _ i _=>s.size-(intOf i).toNat)
 case atStart=>exact ⟨0,s.size,[],by omega,by omega,by simp,HR.out,rfl,⟨rfl,.inl ⟨rfl,rfl⟩⟩,Below.refl _ _⟩
 case round=>
  obtain ⟨i,f,acc,h1,h2,h3,h4,rfl,hown,hbel⟩:=hrel;have H4:=hid h4;have HO:=hid hown;clear h4 hown;by_cases hlt:i<s.size
  ·have AT:=hid (Xj s i (by omega) hlt);have hd:=pF s i hlt;have hw:=iU s i;have hst:dD s f i=Utf8.decode s i::dD s (f-1) (i+(Utf8.decode s i).2):=by
    obtain ⟨f',rfl⟩:∃ f',f=f'+1:=⟨f-1,by omega⟩;rw [dD,if_pos hlt];rfl
   have HST:=hid hst;clear hst;generalize Utf8.decode s i=d at *;obtain ⟨d1,d2⟩:=d;simp only at hd hw AT HST;go_wp2_with fail
   refine (AT.out _).mono ?_;rintro e w1 ⟨rfl,hb1⟩;have hown1:=UW HO.out hb1;have xW:=q01 hbel hb1;have hsz1:=xW.size;clear AT;go_wp2_with (at_builtin;refine wpList_append_own _ rfl _ _ 135 rfl w.heap.size 138 i0 (.agg #[.int .i64 0,.int .i64 0]) 2 16 underlying135 hi hz0 hz1 hz2 rfl (by decide) _ _ _ rfl ((hown1.alloc _).alloc _) ⟨w1.heap.size+1,0,none⟩ 1 1 (Fw (d1,d2)) rfl ?c0 ?c1 ?c2 ?c3 ?c4 ?c5 ?_)
   case c0=>rfl
   case c1=>
    intro j u hj;have:=JA (w1.alloc (.cells #[.int .i64 (d1:Int),.int .i64 (d2:Int)] 138)) (Fw (d1,d2)) 138 j u hj
    rwa [World.size_alloc] at this
   case c2=>intro u hu;simp [Fw] at hu;rcases hu with rfl | rfl<;>rfl
   case c3=>unfold maxLen;omega
   case c4=>omega
   case c5=>simp;omega
   intro v' w3 hown' hgrow _;have c5:w3.cell? ⟨w1.heap.size,1,none⟩=some (.int .i64 (d2:Int)):=q0n hgrow (past (IV w1 [.int .i64 (d1:Int),.int .i64 (d2:Int)] _ 1 _ rfl) _) (own_ne hown1 (Nat.le_refl _));have Xi:Below w.heap.size w w3:=((xW.alloc hsz1 _).alloc (by simp;omega) _).grown hgrow (by simp;omega) (fun j hj=>(hown1.lt j hj).1);have HO3:=hid hown';clear hown' hgrow hown1;go_wp2;go_roundw;case rel=>
    refine ⟨i+d2,f-1,acc++[(d1,d2)],by omega,by omega,by simp;omega,?_,by go_num,?_,Xi⟩
    ·rw [<- H4.out,HST.out];simp
    ·rw [Kq,jKq];exact HO3.out
   case measure=>simp [intOf];omega
  ·have hE:=jR s f i hlt;have HE:Hid (acc=R):=by
    show acc=R;rw [<- H4.out,hE,List.append_nil]
   have hO:=HO.out;clear HO hE;go_wp2;go_ret;exact ⟨_,rfl,by rw [<- HE.out];exact hO,hbel⟩
def jAx (w wr:World) (ps:List (Nat × Nat)) (R:List Nat) (v vg vi:Value):Prop:=
 ∃ (k:Nat) (acc:List Nat) (gap:Bool),k<=ps.length/\acc.length<=2*k/\(∀ c∈acc,c<=1114111)/\nT ((ps.drop k).map (·.1)) gap acc=R/\vi=.int .i64 k/\vg=.bool gap/\wr.ownsRow w.heap.size 3 1 v acc.length (BU acc)/\Below w.heap.size w wr
theorem lD {w:World} {B:Nat} {e:TypeId} {k:Nat} {v:Value} {n:Nat} {xs:List Value} (h:w.ownsRow B e k v n xs):∃ a c,v=.slice a n c:=by
 rcases h.2 with ⟨rfl,rfl⟩ | ⟨g,cap,cur,rfl,_⟩
 ·exact ⟨none,0,rfl⟩
 ·exact ⟨_,_,rfl⟩
def jAz (w1 wr:World) (A:List Nat) (d1:Nat) (v:Value) (wx:World):Prop:=
 wx.ownsRow w1.heap.size 3 1 v A.length (BU A)/\Below w1.heap.size w1 wx/\wx.cell? ⟨wr.heap.size,0,none⟩=some (.int .i64 (d1:Int))
theorem IU {α:Type} (l:List α) (k:Nat) (x:α) (h:l[k]?=some x):l.drop k=x::l.drop (k+1):=by obtain ⟨hk,rfl⟩:=List.getElem?_eq_some_iff.1 h;exact List.drop_eq_getElem_cons hk
theorem BX (l:List Nat) (c:Nat):BU (l++[c])=BU l++[.int .i64 (c:Int)]:=by simp [BU]
theorem Nw (gap:Bool) (acc:List Nat) (c:Nat) (h:∀ x∈acc,x<=1114111) (hc:gq c<=1114111):∀ x∈sO gap acc c,x<=1114111:=by
 unfold sO;intro x hx;rcases List.mem_append.1 hx with hx | hx
 ·split at hx
  ·rcases List.mem_append.1 hx with hx | hx
   ·exact h x hx
   ·simp at hx;omega
  ·exact h x hx
 ·simp at hx;omega
theorem jj7{P:Prop}(h:P:=by
 rcases ho1.2 with ⟨rfl,h0⟩ | ⟨g,cap,cur,rfl,hg,hh,hn,hm,_⟩
 ·exact ⟨none,0,by rw [h0],by omega,Nat.zero_le _,fun h=>by omega⟩
 ·refine ⟨_,cap,rfl,hn,hm,fun _=>⟨g,rfl,(ho1.lt g rfl).2,fun k p hk=>?_⟩⟩;have hr:(mW ps)[k]?=some (Fw p):=by simp [mW,hk]
  have h0:=ho1.cells rfl _ _ (Y4 2 _ (Ko ps) k 0 _ (.int .i64 (p.1:Int)) hr rfl);have h1:=ho1.cells rfl _ _ (Y4 2 _ (Ko ps) k 1 _ (.int .i64 (p.2:Int)) hr rfl);have e:∀ j,((⟨g,0,none⟩:Addr).add j)=⟨g,j,none⟩:=fun j=>by unfold Addr.add;split<;>simp_all
  rw [e] at h0 h1;exact ⟨h0,h1⟩):P:=h
theorem RY (s:ByteArray) (w:World) (hs:s.size<=1000000000) : Calls prog 216 #[.string s] w fun e w'=>e=.returned (.string (nU s))/\Below w.heap.size w w':=by
 obtain ⟨i0,hi,hz0,hz1,hz2⟩:=info_parts jAj;have PO:=hid (xX s w (by omega));obtain ⟨R,hR⟩:∃ R,R=TW s:=⟨_,rfl⟩;have HS:Hid (nU s=⟨(dM R).toArray⟩):=by rw [hR];rfl
 have HR:Hid (nT (((pts s).drop 0).map (·.1)) false []=R):=by rw [hR,List.drop_zero,RX];rfl
 have hpl:(pts s).length<=s.size:=by have:=Kn s s.size 0;unfold pts;simpa using this
 have LM:=hid (yZ s s.size 0);change Hid (∀ p∈pts s,p.1<=1114111) at LM;clear hR;generalize nU s=V at *;generalize pts s=ps at *;go_enter func216,ntmps216;go_wp2_with fail
 refine PO.out.mono ?_;rintro e w1 ⟨v1,rfl,ho1,b1⟩;obtain ⟨a,cap,rfl,hcap,hmx,hcs⟩:∃ a cap,v1=.slice a ps.length cap/\ps.length<=cap/\cap<=maxLen/\(0<ps.length->∃ b,a=some ⟨b,0,none⟩/\b<w1.heap.size/\∀ k p,ps[k]?=some p->w1.cell? ⟨b,k*2,none⟩=some (.int .i64 (p.1:Int))/\w1.cell? ⟨b,k*2+1,none⟩=some (.int .i64 (p.2:Int))):=by exact jj7
 have LB:=hid hcs;clear hcs ho1 PO;unfold maxLen at hmx;go_wp2
 go_loopw [3,4,10] (fun v vg vi wr=>jAx w1 wr ps R v vg vi) (fun _ _ i _=>ps.length-(intOf i).toNat)
 case atStart=>exact ⟨0,[],false,Nat.zero_le _,by simp,by simp,HR.out,rfl,rfl,⟨rfl,.inl ⟨rfl,rfl⟩⟩,Below.refl _ _⟩
 case round=>
  obtain ⟨k,acc,gap,hk,hal,hle,hfg,rfl,rfl,hown,hbel⟩:=hrel;have HO:=hid hown;have HL:=hid hle;have HF:=hid hfg;clear hown hle hfg;by_cases hlt:k<ps.length
  ·obtain ⟨p,hp⟩:∃ p,ps[k]?=some p:=⟨_,List.getElem?_eq_getElem hlt⟩;obtain ⟨b,rfl,hbl,hc⟩:=LB.out (by omega);obtain ⟨k1,k2⟩:=hc k p hp;have c1:wr.cell? ⟨b,k*2,none⟩=some (.int .i64 (p.1:Int)):=by rw [hbel.cell (p:=⟨b,k*2,none⟩) hbl];exact k1
   have c2:wr.cell? ⟨b,k*2+1,none⟩=some (.int .i64 (p.2:Int)):=by rw [hbel.cell (p:=⟨b,k*2+1,none⟩) hbl];exact k2
   have hd:=LM.out p (List.mem_of_getElem? hp);have HD:=hid (IU ps k p hp);obtain ⟨d1,d2⟩:=p;simp only at hd c1 c2;have CS:=hid (fun w=>Ny d1 w hd);have CL:=hid (fun w=>Nz d1 w hd);clear hp hc k1 k2;obtain ⟨av,cv,rfl⟩:=lD HO.out;by_cases hsp:spC d1=true
   ·rw [hsp] at CS;have YT:=hid hsp;clear hsp;go_wp2_with fail
    refine (CS.out _).mono ?_;rintro e w2 ⟨rfl,rfl⟩;go_wp2;go_roundw;case rel=>exact ⟨k+1,acc,true,by omega,by omega,HL.out,by rw [<- HF.out,HD.out,List.map_cons,nT,if_pos YT.out],by go_num,rfl,HO.out.alloc _,hbel.alloc hbel.size _⟩
    case measure=>simp [intOf];omega
   ·have hsp:=TU d1 hsp;rw [hsp] at CS;have YT:=hid hsp;have hlo:=Eb d1 hd;obtain ⟨A,hA⟩:∃ A,A=if gap&&!acc.isEmpty then acc++[32] else acc:=⟨_,rfl⟩
    have HAE:=hid hA;have hAl:A.length<=acc.length+1:=by rw [hA];split<;>simp
    have HFA:Hid (sO gap acc d1=A++[gq d1]):=by rw [hA];rfl
    have HFL:=hid (Nw gap acc d1 HL.out hlo);have hsz1:=hbel.size;clear hsp hA;generalize gq d1=lc at *;go_wp2_with fail
    refine (CS.out _).mono ?_;rintro e w2 ⟨rfl,rfl⟩;clear CS;obtain ⟨wi,hwi⟩:∃ wi,wi=wr.alloc (.cells #[.int .i64 (d1:Int),.int .i64 (d2:Int)] 138):=⟨_,rfl⟩;have HI:Hid (jAz w1 wr acc d1 (.slice av acc.length cv) wi):=by rw [hwi];exact ⟨HO.out.alloc _,hbel.alloc hbel.size _,IV wr [.int .i64 (d1:Int),.int .i64 (d2:Int)] _ 0 _ rfl⟩
    rw [<- hwi];clear hwi c1 c2;go_upto_region 8 with (fail)
    go_cut [22] (fun s22 wx=>s22=.bool (gap&&!acc.isEmpty)/\wi=wx)
    case first=>
     cases gap with
     | false=>
      go_wp2_with fail
      go_meet
      exact ⟨rfl,rfl⟩
     | true=>
      go_wp2_with fail
      go_meet
      refine ⟨?_,rfl⟩;cases acc with
      | nil=>rfl
      | cons x l=>simp
    case rest=>
     obtain ⟨rfl,rfl⟩:=hcut
     go_upto_if 22 with (fail)
     go_cut [3] (fun s3 wx=>jAz w1 wr A d1 s3 wx)
     case first=>
      by_cases hga:(gap&&!acc.isEmpty)=true
      ·have HA2:Hid (A=acc++[32]):=by rw [HAE.out,if_pos hga];exact rfl
       rw [hga];obtain ⟨ho,hb,hcl⟩:=HI.out;have hsz:=hb.size;go_wp2_with (at_builtin;refine wpList_append_own _ rfl _ _ 177 rfl w1.heap.size 3 i0 (.int .i64 0) 1 8 underlying177 hi hz0 hz1 hz2 rfl (by decide) _ _ _ rfl (ho.alloc _) ⟨wi.heap.size,0,none⟩ 1 1 [.int .i64 32] rfl rfl ?c1 ?c2 ?c3 ?c4 ?c5 ?_)
       case c1=>exact Gi wi _ _
       case c2=>intro u hu;simp at hu;subst hu;rfl
       case c3=>unfold maxLen;omega
       case c4=>omega
       case c5=>simp;omega
       intro v' w3 hown' hgrow _;have b3:Below w1.heap.size w1 w3:=below_app hb hsz ho hgrow;have c3:w3.cell? ⟨wr.heap.size,0,none⟩=some (.int .i64 (d1:Int)):=q0n hgrow (past hcl _) (own_ne HO.out (Nat.le_refl _));have M3:=hid (⟨hown',b3,c3⟩:_/\_/\_);clear hown' hgrow ho hb hcl b3 c3;go_wp2_with fail
       go_meet
       rw [HA2.out];refine ⟨?_,M3.out.2.1,M3.out.2.2⟩;rw [BX,jKq];exact M3.out.1
      ·have HA2:Hid (A=acc):=by rw [HAE.out,if_neg hga];exact rfl
       have hga:(gap&&!acc.isEmpty)=false:=by simpa using hga
       rw [hga];go_wp2_with fail
       go_meet
       rw [HA2.out];exact HI.out
     case rest=>
      obtain ⟨ho,hb,hcl⟩:=hcut;have hsz:=hb.size;have HOM:=hid ho;go_wp2_with fail
      refine (CL.out _).mono ?_;rintro e w4 ⟨rfl,rfl⟩;go_wp2_with (at_builtin;refine wpList_append_own _ rfl _ _ 177 rfl w1.heap.size 3 i0 (.int .i64 0) 1 8 underlying177 hi hz0 hz1 hz2 rfl (by decide) _ _ _ rfl (HOM.out.alloc _) ⟨wc.heap.size,0,none⟩ 1 1 [.int .i64 (lc:Int)] rfl rfl ?c1 ?c2 ?c3 ?c4 ?c5 ?_)
      case c1=>exact Gi wc _ _
      case c2=>intro u hu;simp at hu;subst hu;rfl
      case c3=>unfold maxLen;omega
      case c4=>omega
      case c5=>simp;omega
      intro v' w3 hown' hgrow _;have b3:Below w1.heap.size w1 w3:=below_app hb hsz HOM.out hgrow;have HO3:=hid hown';clear hown' hgrow ho hb hcl;go_wp2;go_roundw;case rel=>
       refine ⟨k+1,A++[lc],false,by omega,by simp;omega,by rw [<- HFA.out];exact HFL.out,?_,by go_num,rfl,?_,b3⟩
       ·rw [<- HF.out,HD.out,List.map_cons,nT,if_neg (by rw [YT.out];decide),HFA.out]
       ·rw [BX,jKq];exact HO3.out
      case measure=>simp [intOf];omega
  ·have HE:Hid (acc=R):=by
    show acc=R;rw [<- HF.out,List.drop_eq_nil_of_le (by omega)];rfl
   have TX:=hid (RU acc _ wr (by have:=Dt.mE HO.out;exact this) (by omega) HL.out);clear HO;go_wp2_with fail
   refine TX.out.mono ?_;rintro e w2 ⟨rfl,b2⟩;go_wp2;go_ret;exact ⟨by rw [HS.out,<- HE.out];rfl,q01 (q01 b1 hbel) b2⟩
end Go.Proofs.YtkfnkeflalcphaaGreatDoor

