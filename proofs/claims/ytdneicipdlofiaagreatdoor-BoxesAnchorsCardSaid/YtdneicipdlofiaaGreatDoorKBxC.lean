/- The boxes of a document, plainly: what boxes.Of makes. Contracts of boxes.shown and of the function that calls itself in it. Words for boxes in memory: a row since a number of blocks, what else stays, the maker. Contract of boxes.lines where no line has an error. A law's wrap that hands the contract the shape of the world too: a package-level variable of an integer's type holds some integer. Contracts of boxes.anchors and of the function that calls itself in it. The contract of wrap.Lines where there are too many words, or too wide ones. Contract of boxes.lines where a line has an error. Plain part: the texts of boxes are clean. Contracts of boxes.Check and of the reference's Check of boxes: the first error. -/
import Derived.Test.YtdneicipdlofiaaGreatDoorKRIds
import Derived.Lib.OwnKind
import Derived.Test.YtdneicipdlofiaaGreatDoorKLines
import Derived.LaidMore
import Derived.Test.YtdneicipdlofiaaGreatDoorKPlParse
set_option maxHeartbeats 8000000
set_option maxRecDepth 100000
namespace Go.Proofs.YtdneicipdlofiaaGreatDoor
open List renaming getElem?_eq_getElem->joq,length_append->jp4,mem_of_getElem?->jpk,take_add_one->jq3,append_assoc->jq4,take_length->jq5,mem_cons_self->jr1,append_nil->jrx
open Go.RowKit.Below renaming refl->jox
open Nat renaming le_refl->joz,le_trans->jp0,zero_le->jpj
open Option.some renaming inj->jp7
open Go renaming World->js1,Value->js3
open Go.RowKit renaming Below->js2
set_option linter.unusedVariables false
set_option linter.unusedSimpArgs false
mutual
def aj.shown:aj->List UInt8
 | .mk k t d _ _ _ _ ks=>
  if k=1\/k=4\/k=5 then t.data.toList else if k=2 then [32] else if k=3 then [10] else if k=16 then d.data.toList
  else if k=12 then 91::(t.data.toList++[93]) else if k=6\/k=7\/k=8\/k=9\/k=10\/k=11 then aj.ay ks else []
def aj.ay:List aj->List UInt8
 | []=>[]
 | x::l=>x.shown++aj.ay l
end
def fq (l:List aj):ByteArray:=⟨(aj.ay l).toArray⟩
def Dz:ByteArray:=⟨#[10]⟩
def fT (s:ByteArray):List ByteArray:=Lib.splitB Dz 0 (Lib.countB s Dz) s
def og (s:ByteArray) (wd:Int):List ByteArray:=BH (fJ s) (Bz (dF (fJ s)) 30 wd)
def jL (s:ByteArray):Nat:=if 4096<(fJ s).length\/∃ x∈fJ s,1048576<dA x then 3 else 0
def lC:List ByteArray->Nat
 | []=>0
 | s::l=>if jL s≠0 then jL s else lC l
def qj (wd:Int) (l:List ByteArray):List ByteArray:=l.flatMap (og · wd)
def fU (li:List aj):Nat:=lC (fT (fq li))
def mI (l:List ByteArray):List ByteArray:=if l=[] then [⟨#[]⟩] else l
def dB (li:List aj) (wd:Int):List ByteArray:=mI (qj wd (fT (fq li)))
structure Px where
 first:ByteArray
 rest:ByteArray
def Px.inner (p:Px) (W:Int):Int:=max 1 (W-max (dA p.first:Int) (dA p.rest:Int))
def Px.text (p:Px) (i:Nat) (s:ByteArray):ByteArray:=if i=0 then p.first++s else p.rest++s
def rW (n:Nat):ByteArray:=⟨(List.replicate n (32:UInt8)).toArray⟩
def Px.mark (p:Px) (m:ByteArray):Px:=⟨p.first++m,p.rest++rW m.size⟩
def Px.next (p:Px):Px:=⟨p.rest,p.rest⟩
structure Bx where
 text:ByteArray
 ht:Int
 gr:Int
 keep:Bool
 fl:Bool
 an:List ByteArray
def Bx.new (s:ByteArray) (h:Int) (k:Bool):Bx:=⟨s,h,0,k,false,[]⟩
structure St where
 groups:Nat
 pend:List ByteArray
 count:Nat
 aV:Bool
 err:Nat
def bK (p:Px) (h:Int) (keep:Nat->Bool) (ts:List ByteArray):List Bx:=(List.range ts.length).map fun i=>Bx.new (p.text i (ts.getD i ⟨#[]⟩)) h (keep i)
def qy (g:Nat) (an:List ByteArray) (x:Bx):Bx:={ x with gr:=g,an:=an }
def cZ (g:Nat) (x:Bx):Bx:={ x with gr:=g }
def bO (st:St) (l:List Bx) (own:List ByteArray):List Bx × St:=
 if st.aV=true then (l,st)
 else (match l with
  | []=>[]
  | x::r=>qy st.groups (st.pend++own) x::r.map (cZ st.groups),{ st with groups:=st.groups+1,pend:=[],count:=st.count+l.length })
def aW (a:At) (li:List aj):List ByteArray:=ig a++bJ (aj.aA li)
def gT (s:ByteArray):ByteArray:=⟨(Lib.trimSuffix s.data.toList [10]).toArray⟩
def lV (l:List ByteArray) (sep:List UInt8):ByteArray:=⟨(Lib.join (l.map (·.data.toList)) sep).toArray⟩
def ze:ah->List ah | .mk _ _ _ _ _ _ _ _ ks=>ks
def kZ:ah->List aj | .mk _ _ _ _ _ _ _ li _=>li
def Uy:ah->At | .mk _ _ _ _ _ _ a _ _=>a
def jh (r:ah):ByteArray:=lV ((ze r).map fun c=>fq (kZ c)) [32,124,32]
def uG (r:ah):List ByteArray:=(ze r).flatMap fun c=>aW (Uy c) (kZ c)
def bQ (l:List Bx) (rs:List ah):List Bx:=(l.zip rs).map fun z=>{ z.1 with an:=z.1.an++uG z.2 }
def iy (st:St) (p:Px) (ks:List ah):List Bx × St:=
 let r:=bO st (bK p 1 (fun i=>decide (i=0)&&decide (1<ks.length)) (ks.map jh)) []
 if st.aV=true then r else (bQ r.1 ks,r.2)
def D5:ByteArray:=⟨#[102,105,103,117,114,101]⟩
def GQ (l:List Bx):Int:=l.foldl (fun n x=>n+x.ht) 0
def fV (p:Px) (kids:List Bx):Bx:=if kids=[] then ⟨p.first,1,0,false,true,[]⟩ else ⟨lV (kids.map Bx.text) [10],GQ kids,0,false,true,[]⟩
def GR:ByteArray:=⟨#[62,32]⟩
def jgj:ByteArray:=⟨#[46,32]⟩
def Zm:ByteArray:=⟨#[45,32]⟩
def Nr (n:Int):ByteArray:=⟨(Lib.decDigits n.toNat).toArray⟩
def dn (k lv:Int) (i:Nat):ByteArray:=if k=8 then Nr (lv+i)++jgj else Zm
def St.lim (s:St):St:=if 4096<s.count/\s.err=0 then { s with err:=3 } else s
def ahead (o:List Bx) (r:List Bx × St):List Bx × St:=if r.2.err≠0 then ([],r.2) else (o++r.1,r.2)
mutual
def ah.dG (W:Int) (st:St) (p:Px):ah->List Bx × St
 | .mk k lv i t d ti a li ks=>
  if k=1\/k=2 then
   if fU li≠0 then ([],{ st with err:=fU li })
   else bO st (bK p (if k=2 then 2 else 1) (fun j=>decide (k=2)||(decide (1<(dB li (p.inner W)).length)&&(decide (j=0)||decide (j+2=(dB li (p.inner W)).length)))) (dB li (p.inner W))) (aW a li)
  else if k=3\/k=4 then bO st (bK p 1 (fun j=>decide (k=4)&&decide (j+1<(fT (gT t)).length)) (fT (gT t))) (aW a li)
  else if k=5 then bO st [Bx.new (p.first++⟨#[45,45,45]⟩) 1 false] (aW a li)
  else if k=10 then iy st p ks
  else if k=6 then ah.bX W st ⟨p.first++GR,p.rest++GR⟩ ks
  else if k=7\/k=8 then ah.oK W st p k lv 0 ks
  else if k=13 then
   if i=D5 then
    let r:=ah.bX W { st with aV:=true } p ks
    if r.2.err≠0 then ([],{ r.2 with aV:=st.aV })
    else bO { r.2 with aV:=st.aV } [fV p r.1] (aW a li++ah.aN ks)
   else
    let r:=ah.bX W (if a.id.data.toList≠[]/\st.aV=false then { st with pend:=st.pend++[a.id] } else st) p ks
    if r.1≠[]\/a.id.data.toList=[]\/r.2.err≠0 then r else bO r.2 [Bx.new (p.first++⟨#[]⟩) 1 false] []
  else if k=14 then ah.bX W st (p.mark (⟨#[91]⟩++i++⟨#[93,32]⟩)) ks
  else ([],st)
def ah.bX (W:Int) (st:St) (p:Px):List ah->List Bx × St
 | []=>([],st)
 | x::l=>
  let r:=x.dG W st p
  if r.2.lim.err≠0 then ([],r.2.lim) else ahead r.1 (ah.bX W r.2.lim p.next l)
def ah.oK (W:Int) (st:St) (p:Px) (k lv:Int) (i:Nat):List ah->List Bx × St
 | []=>([],st)
 | x::l=>
  let r:=x.tJ W st (p.mark (dn k lv i))
  if r.2.err≠0 then ([],r.2) else ahead r.1 (ah.oK W r.2 p.next k lv (i+1) l)
def ah.tJ (W:Int) (st:St) (q:Px):ah->List Bx × St
 | .mk k lv i t d ti a li ks=>if ks=[] then bO st [Bx.new (q.first++⟨#[]⟩) 1 false] [] else ah.bX W st q ks
end
def zT (W:Int) (l:List ah):List Bx × Nat:=
 let r:=ah.bX W ⟨0,[],0,false,0⟩ ⟨⟨#[]⟩,⟨#[]⟩⟩ l
 if r.2.err≠0 then ([],r.2.err) else if 4096<r.1.length then ([],3) else (r.1,0)
open Go.RowKit
theorem vM (l m:List aj):aj.ay (l++m)=aj.ay l++aj.ay m:=by
 induction l with
 | nil=>rw [aj.ay];rfl
 | cons x l ih=>rw [List.cons_append,aj.ay,aj.ay,ih,jq4]
theorem tK (l:List aj) (k:Nat) (x:aj) (h:l[k]?=some x):aj.ay (l.take (k+1))=aj.ay (l.take k)++x.shown:=by rw [jq3,h,vM];simp [aj.ay]
theorem KO (l:List aj) (k:Nat):(aj.ay (l.take k)).length<=(aj.ay l).length:=by have h:l=l.take k++l.drop k:=(List.take_append_drop k l).symm;have:=congrArg (fun l=>(aj.ay l).length) h;rw [vM] at this;simp at this;omega
theorem Ns (l:List aj) (k:Nat) (x:aj) (h:l[k]?=some x):(aj.ay (l.take k)).length+x.shown.length<=(aj.ay l).length:=by have h1:=KO l (k+1);rw [tK l k x h,jp4] at h1;exact h1
theorem D6 (k:Int):(k=1\/k=4\/k=5)\/k=2\/k=3\/k=16\/k=12\/(k=6\/k=7\/k=8\/k=9\/k=10\/k=11)\/(k≠1/\k≠4/\k≠5/\k≠2/\k≠3/\k≠6/\k≠7/\k≠8/\k≠9/\k≠10/\k≠11/\k≠16/\k≠12):=by omega
theorem D7 (t:ByteArray):((⟨#[91]⟩:ByteArray)++t++⟨#[93]⟩).data.toList=91::(t.data.toList++[93]):=by rw [ByteArray.data_append,ByteArray.data_append,Array.toList_append,Array.toList_append];rfl
def Zn (S:Nat):js3:=.func (.func 220) #[] #[.pointer (some ⟨S,0,none⟩),.pointer (some ⟨S+1,0,none⟩)]
structure QV (S:Nat) (l:List UInt8) (w:js1):Prop where
 b:Lib.IsBuilderF 117 5 S S (Lib.byteCells l) w
 f:aH (S+1) (Zn S) 122 w
theorem QV.alloc {S:Nat} {l:List UInt8} {w:js1} (h:QV S l w) (o:Obj):QV S l (w.alloc o):=⟨h.b.alloc o,h.f.alloc o⟩
theorem Ro {S:Nat} {P:List UInt8} {w:js1} (h:QV S P w) (s:ByteArray) (hl:P.length+s.size<=1000000000) : Calls Tryz.prog 165 #[.pointer (some ⟨S,0,none⟩),.string s] w fun e w'=>e=.returned (.tuple #[.int .i64 s.size,.nilIface])/\QV S (P++s.data.toList) w'/\js2 S w w':=
 (y9 S S (Lib.byteCells P) s w h.b (by rw [Lib.byteCells_length];omega) (by have:=h.f.lt;omega)).mono fun _ w' ⟨he,hw⟩=>
  ⟨he,⟨by rw [Lib.byteCells_append,<- vF];exact hw.1,hw.2.2 (S+1) _ h.f (by simp) (by intro c fz e;simp at e)⟩,hw.2.1⟩
def Zo (S:Nat) (pre:List UInt8) (l:List aj) (w:js1) (vi:js3) (wr:js1):Prop:=
 ∃ k:Nat,k<=l.length/\vi=.int .i64 k/\QV S (pre++aj.ay (l.take k)) wr/\js2 S w wr
def Wi (S:Nat) (out:List UInt8) (w:js1) (e:Ending) (w':js1):Prop:=e=.returned (.tuple #[])/\QV S out w'/\js2 S w w'
theorem GU (S:Nat) (n:Nat):∀ (l:List aj) (pre:List UInt8) (v:js3) (w:js1),aj.aX l<=n->Rd (·<S) w (fK l) [v]->pre.length+(aj.ay l).length<=1000000->QV S pre w -> Calls Tryz.prog 220 #[v,.pointer (some ⟨S,0,none⟩),.pointer (some ⟨S+1,0,none⟩)] w (Wi S (pre++aj.ay l) w):=by
 induction n using Nat.strongRecOn with
 | _ n ih=>
  intro l pre v w hn hrd hlen hbd;obtain ⟨a,cap,hv,hs⟩:=Rd.aC hrd;obtain rfl:v=.slice a l.length cap:=by simpa using hv
  have hcap:l.length<=cap:=by simpa using hs.le
  have hmx:=hs.max;have HS:=Lib.hid hs;have HZ:Hid (pre++aj.ay (l.take 0)=pre):=by show pre++aj.ay []=pre;rw [aj.ay,jrx]
  have IH:=Lib.hid ih;have HB:=Lib.hid hbd;clear hs hv hrd ih hbd;unfold maxLen at hmx;go_enter Tryz.func220,Tryz.ntmps220;go_wp2
  go_loopw [8] (fun vi wr=>Zo S pre l w vi wr) (fun i _=>l.length-(intOf i).toNat)
  case atStart=>exact ⟨0,jpj _,rfl,by rw [HZ.out];exact HB.out,jox _ _⟩
  case round=>
   obtain ⟨k,hk,rfl,hbd,hbel⟩:=hrel;by_cases hlt:k<l.length
   ·obtain ⟨x,hx⟩:∃ x,l[k]?=some x:=⟨_,joq hlt⟩;obtain ⟨kd,t,d,ti,at_,ar,ci,ks⟩:=x;obtain ⟨g,off,vc,vp,va,vi,vk,rfl,hok,hbl,hc,hR⟩:=iL (HS.out.below hbel) hx;obtain ⟨c0,c1,c2,c3,c4,c5,c6,c7,c8,c9⟩:=hc;obtain ⟨ac,nc,cc,rfl⟩:=Rd.au hR.at_.cls
    obtain ⟨ap,np,cp,rfl⟩:=Rd.au hR.at_.aJ
    obtain ⟨aa,na,ca,rfl⟩:=Rd.au hR.args;obtain ⟨ai,ni,YD,rfl⟩:=Rd.au hR.ji;obtain ⟨ak,nk,ck,rfl⟩:=Rd.au hR.kids;have D8:=hR.kids;have hsz:=aj.bP l k _ hx;rw [aj.sz] at hsz;have HT:=Lib.hid (tK l k _ hx);have hle:=Ns l k _ hx;obtain ⟨p,hp⟩:∃ p,p=wr.heap.size:=⟨_,rfl⟩;obtain ⟨w0,hw0⟩:∃ w0,w0=wr.alloc (.cells #[.int .i64 kd,.string t,.string d,.string ti,.string at_.id,.slice ac nc cc,.slice ap np cp,.slice aa na ca,.slice ai ni YD,.slice ak nk ck] 43):=⟨_,rfl⟩;have k0:CB 43 p [.int .i64 kd,.string t,.string d,.string ti,.string at_.id,.slice ac nc cc,.slice ap np cp,.slice aa na ca,.slice ai ni YD,.slice ak nk ck] w0:=by rw [hw0,hp];exact CB.new _ _ _
    have hS2:S<=wr.heap.size:=by have:=hbd.f.lt;omega
    have b0:js2 S wr w0:=by rw [hw0];exact (jox _ _).alloc hS2 _
    have i0:QV S (pre++aj.ay (l.take k)) w0:=by rw [hw0];exact hbd.alloc _
    have ik:=fun pr h1 h2=>IH.out (aj.aX ks) (by omega) ks pr (.slice ak nk ck) w0 (joz _) (D8.below b0) h1 h2
    have IK:=Lib.hid ik;have B0:=Lib.hid (hbel.trans b0);have d0:=k0.cell 0 _ rfl;have d1:=k0.cell 1 _ rfl;have d2:=k0.cell 2 _ rfl;have d7:=k0.cell 9 _ rfl;have fc:=i0.f.cell;unfold Zn at fc;have HI:=Lib.hid i0;have hpl:(pre++aj.ay (l.take k)).length=pre.length+(aj.ay (l.take k)).length:=by simp
    clear hx D8 hR ik hbd hbel i0 b0 k0 hsz hok hbl;go_upto_region 3 with (fail)
    rw [<- hw0,<- hp];clear hw0 hp c0 c1 c2 c3 c4 c5 c6 c7 c8 c9;generalize hacc:aj.ay (l.take k)=acc at *;generalize hacc':aj.ay (l.take (k+1))=acc' at *;have Jp:=Lib.hid hacc';clear hacc hacc';obtain ⟨P,hP⟩:∃ P,P=pre++acc:=⟨_,rfl⟩;have HP:=Lib.hid hP;rw [<- hP] at HI hpl;clear hP;have WS:=Lib.hid (fun (s:ByteArray) (h:P.length+s.size<=1000000000)=>Ro HI.out s h);have zU:=Lib.hid (fun h=>IK.out P h HI.out);clear IK;rcases D6 kd with (rfl | rfl | rfl) | rfl | rfl | rfl | rfl | (rfl | rfl | rfl | rfl | rfl | rfl) | h
    ·have hp:(aj.mk 1 t d ti at_ ar ci ks).shown=t.data.toList:=by rw [aj.shown];simp
     rw [hp] at HT hle;have W1:=Lib.hid (WS.out t (by rw [Lib.size_eq];omega));clear hp hle WS zU;go_wp2_with fail
     (with_reducible refine W1.out.mono ?_)
     rintro e w1 ⟨rfl,B1,b1⟩;have HB1:=Lib.hid B1;clear B1;go_wp2;go_roundw;case rel=>exact ⟨k+1,by omega,by go_num,by rw [Jp.out,HT.out,<- jq4,<- HP.out];exact HB1.out,B0.out.trans b1⟩
     case measure=>simp [intOf];omega
    ·have hp:(aj.mk 4 t d ti at_ ar ci ks).shown=t.data.toList:=by rw [aj.shown];simp
     rw [hp] at HT hle;have W1:=Lib.hid (WS.out t (by rw [Lib.size_eq];omega));clear hp hle WS zU;go_wp2_with fail
     (with_reducible refine W1.out.mono ?_)
     rintro e w1 ⟨rfl,B1,b1⟩;have HB1:=Lib.hid B1;clear B1;go_wp2;go_roundw;case rel=>exact ⟨k+1,by omega,by go_num,by rw [Jp.out,HT.out,<- jq4,<- HP.out];exact HB1.out,B0.out.trans b1⟩
     case measure=>simp [intOf];omega
    ·have hp:(aj.mk 5 t d ti at_ ar ci ks).shown=t.data.toList:=by rw [aj.shown];simp
     rw [hp] at HT hle;have W1:=Lib.hid (WS.out t (by rw [Lib.size_eq];omega));clear hp hle WS zU;go_wp2_with fail
     (with_reducible refine W1.out.mono ?_)
     rintro e w1 ⟨rfl,B1,b1⟩;have HB1:=Lib.hid B1;clear B1;go_wp2;go_roundw;case rel=>exact ⟨k+1,by omega,by go_num,by rw [Jp.out,HT.out,<- jq4,<- HP.out];exact HB1.out,B0.out.trans b1⟩
     case measure=>simp [intOf];omega
    ·have hp:(aj.mk 2 t d ti at_ ar ci ks).shown=[32]:=by rw [aj.shown];simp
     rw [hp] at HT hle;have W1:=Lib.hid (WS.out ⟨#[32]⟩ (by simp only [List.length_cons,List.length_nil] at hle;show P.length+1<=_;omega));clear hp hle WS zU;go_wp2_with fail
     (with_reducible refine W1.out.mono ?_)
     rintro e w1 ⟨rfl,B1,b1⟩;have HB1:=Lib.hid B1;clear B1;go_wp2;go_roundw;case rel=>exact ⟨k+1,by omega,by go_num,by rw [Jp.out,HT.out,<- jq4,<- HP.out];exact HB1.out,B0.out.trans b1⟩
     case measure=>simp [intOf];omega
    ·have hp:(aj.mk 3 t d ti at_ ar ci ks).shown=[10]:=by rw [aj.shown];simp
     rw [hp] at HT hle;have W1:=Lib.hid (WS.out ⟨#[10]⟩ (by simp only [List.length_cons,List.length_nil] at hle;show P.length+1<=_;omega));clear hp hle WS zU;go_wp2_with fail
     (with_reducible refine W1.out.mono ?_)
     rintro e w1 ⟨rfl,B1,b1⟩;have HB1:=Lib.hid B1;clear B1;go_wp2;go_roundw;case rel=>exact ⟨k+1,by omega,by go_num,by rw [Jp.out,HT.out,<- jq4,<- HP.out];exact HB1.out,B0.out.trans b1⟩
     case measure=>simp [intOf];omega
    ·have hp:(aj.mk 16 t d ti at_ ar ci ks).shown=d.data.toList:=by rw [aj.shown];simp
     rw [hp] at HT hle;have W1:=Lib.hid (WS.out d (by rw [Lib.size_eq];omega));clear hp hle WS zU;go_wp2_with fail
     (with_reducible refine W1.out.mono ?_)
     rintro e w1 ⟨rfl,B1,b1⟩;have HB1:=Lib.hid B1;clear B1;go_wp2;go_roundw;case rel=>exact ⟨k+1,by omega,by go_num,by rw [Jp.out,HT.out,<- jq4,<- HP.out];exact HB1.out,B0.out.trans b1⟩
     case measure=>simp [intOf];omega
    ·have hp:(aj.mk 12 t d ti at_ ar ci ks).shown=91::(t.data.toList++[93]):=by rw [aj.shown];simp
     rw [hp] at HT hle;have ht1:t.size<=1000000:=by simp only [List.length_cons,jp4,List.length_nil] at hle;rw [Lib.size_eq];omega
     have ht0:(ByteArray.mk #[91]).size=1:=rfl;have ht2:(ByteArray.mk #[93]).size=1:=rfl;have W1:=Lib.hid (WS.out (⟨#[91]⟩++t++⟨#[93]⟩) (by rw [Lib.size_eq,D7];omega));rw [D7] at W1;clear hp hle WS zU;go_wp2_with fail
     (with_reducible refine W1.out.mono ?_)
     rintro e w1 ⟨rfl,B1,b1⟩;have HB1:=Lib.hid B1;clear B1;go_wp2;go_roundw;case rel=>exact ⟨k+1,by omega,by go_num,by rw [Jp.out,HT.out,<- jq4,<- HP.out];exact HB1.out,B0.out.trans b1⟩
     case measure=>simp [intOf];omega
    ·have hp:(aj.mk 6 t d ti at_ ar ci ks).shown=aj.ay ks:=by rw [aj.shown];simp
     rw [hp] at HT hle;have W1:=Lib.hid (zU.out (by omega));clear hp hle WS zU;generalize aj.ay ks=pk at *;go_wp2_with fail
     (with_reducible refine W1.out.mono ?_)
     rintro e w1 ⟨rfl,B1,b1⟩;have HB1:=Lib.hid B1;clear B1;go_wp2;go_roundw;case rel=>exact ⟨k+1,by omega,by go_num,by rw [Jp.out,HT.out,<- jq4,<- HP.out];exact HB1.out,B0.out.trans b1⟩
     case measure=>simp [intOf];omega
    ·have hp:(aj.mk 7 t d ti at_ ar ci ks).shown=aj.ay ks:=by rw [aj.shown];simp
     rw [hp] at HT hle;have W1:=Lib.hid (zU.out (by omega));clear hp hle WS zU;generalize aj.ay ks=pk at *;go_wp2_with fail
     (with_reducible refine W1.out.mono ?_)
     rintro e w1 ⟨rfl,B1,b1⟩;have HB1:=Lib.hid B1;clear B1;go_wp2;go_roundw;case rel=>exact ⟨k+1,by omega,by go_num,by rw [Jp.out,HT.out,<- jq4,<- HP.out];exact HB1.out,B0.out.trans b1⟩
     case measure=>simp [intOf];omega
    ·have hp:(aj.mk 8 t d ti at_ ar ci ks).shown=aj.ay ks:=by rw [aj.shown];simp
     rw [hp] at HT hle;have W1:=Lib.hid (zU.out (by omega));clear hp hle WS zU;generalize aj.ay ks=pk at *;go_wp2_with fail
     (with_reducible refine W1.out.mono ?_)
     rintro e w1 ⟨rfl,B1,b1⟩;have HB1:=Lib.hid B1;clear B1;go_wp2;go_roundw;case rel=>exact ⟨k+1,by omega,by go_num,by rw [Jp.out,HT.out,<- jq4,<- HP.out];exact HB1.out,B0.out.trans b1⟩
     case measure=>simp [intOf];omega
    ·have hp:(aj.mk 9 t d ti at_ ar ci ks).shown=aj.ay ks:=by rw [aj.shown];simp
     rw [hp] at HT hle;have W1:=Lib.hid (zU.out (by omega));clear hp hle WS zU;generalize aj.ay ks=pk at *;go_wp2_with fail
     (with_reducible refine W1.out.mono ?_)
     rintro e w1 ⟨rfl,B1,b1⟩;have HB1:=Lib.hid B1;clear B1;go_wp2;go_roundw;case rel=>exact ⟨k+1,by omega,by go_num,by rw [Jp.out,HT.out,<- jq4,<- HP.out];exact HB1.out,B0.out.trans b1⟩
     case measure=>simp [intOf];omega
    ·have hp:(aj.mk 10 t d ti at_ ar ci ks).shown=aj.ay ks:=by rw [aj.shown];simp
     rw [hp] at HT hle;have W1:=Lib.hid (zU.out (by omega));clear hp hle WS zU;generalize aj.ay ks=pk at *;go_wp2_with fail
     (with_reducible refine W1.out.mono ?_)
     rintro e w1 ⟨rfl,B1,b1⟩;have HB1:=Lib.hid B1;clear B1;go_wp2;go_roundw;case rel=>exact ⟨k+1,by omega,by go_num,by rw [Jp.out,HT.out,<- jq4,<- HP.out];exact HB1.out,B0.out.trans b1⟩
     case measure=>simp [intOf];omega
    ·have hp:(aj.mk 11 t d ti at_ ar ci ks).shown=aj.ay ks:=by rw [aj.shown];simp
     rw [hp] at HT hle;have W1:=Lib.hid (zU.out (by omega));clear hp hle WS zU;generalize aj.ay ks=pk at *;go_wp2_with fail
     (with_reducible refine W1.out.mono ?_)
     rintro e w1 ⟨rfl,B1,b1⟩;have HB1:=Lib.hid B1;clear B1;go_wp2;go_roundw;case rel=>exact ⟨k+1,by omega,by go_num,by rw [Jp.out,HT.out,<- jq4,<- HP.out];exact HB1.out,B0.out.trans b1⟩
     case measure=>simp [intOf];omega
    ·obtain ⟨h1,h4,h5,h2,h3,h6,h7,h8,h9,h10,h11,h16,h12⟩:=h;have hp:(aj.mk kd t d ti at_ ar ci ks).shown=[]:=by rw [aj.shown];simp [h1,h2,h3,h4,h5,h6,h7,h8,h9,h10,h11,h16,h12]
     rw [hp] at HT;have f1:=beq_false_of_ne h1;have f2:=beq_false_of_ne h2;have f3:=beq_false_of_ne h3;have f4:=beq_false_of_ne h4;have f5:=beq_false_of_ne h5;have f6:=beq_false_of_ne h6;have f7:=beq_false_of_ne h7;have f8:=beq_false_of_ne h8;have f9:=beq_false_of_ne h9;have f10:=beq_false_of_ne h10;have f11:=beq_false_of_ne h11;have f12:=beq_false_of_ne h12;have f16:=beq_false_of_ne h16;clear hp h1 h2 h3 h4 h5 h6 h7 h8 h9 h10 h11 h16 h12 hle WS zU;go_wp2;go_roundw;case rel=>exact ⟨k+1,by omega,by go_num,by rw [Jp.out,HT.out,jrx,<- HP.out];exact HI.out,B0.out⟩
     case measure=>simp [intOf];omega
   ·have hkl:k=l.length:=by omega
    have hE:aj.ay (l.take k)=aj.ay l:=by rw [hkl,jq5]
    rw [hE] at hbd;have uR:=Lib.hid hbd;clear hkl hE hbd;go_wp2
    go_end0
    exact ⟨rfl,uR.out,hbel⟩
theorem rX (l:List aj) (v:js3) (w:js1) (h:Rd (·<w.heap.size) w (fK l) [v]) (hlen:(aj.ay l).length<=1000000) : Calls Tryz.prog 180 #[v] w fun e w'=>e=.returned (.string (fq l))/\js2 w.heap.size w w':=by
 obtain ⟨S,hS⟩:∃ S,S=w.heap.size:=⟨_,rfl⟩;obtain ⟨w0,hw0⟩:∃ w0,w0=w.alloc (.cells #[.pointer none,.slice none 0 0] 117):=⟨_,rfl⟩;obtain ⟨w1,hw1⟩:∃ w1,w1=w0.alloc (.cells #[Zn S] 122):=⟨_,rfl⟩;have b0:js2 S w w0:=by rw [hw0];exact (jox _ w).alloc (by omega) _
 have hz0:w0.heap.size=S+1:=by rw [hw0,hS];simp
 have b1:js2 S w w1:=by rw [hw1];exact b0.alloc (by omega) _
 have i1:QV S [] w1:=by
  refine ⟨?_,?_⟩
  ·rw [hw1];refine Lib.IsBuilderF.alloc ?_ _;rw [hw0,hS];exact Lib.IsBuilderF.of (Lib.fresh_isBuilder 117 5 w)
  ·rw [hw1,<- hz0];exact aH.new _ _ _
 have SC:=Lib.hid (GU S _ l [] v w1 (joz _) (by rw [<- hS] at h;exact h.below b1) (by simpa using hlen) i1);have fc:=i1.f.cell;unfold Zn at fc;have B1:=Lib.hid b1;have HS:=Lib.hid hS;clear h b0 b1 i1 hlen;go_enter Tryz.func180,Tryz.ntmps180;go_upto_region 4 with (fail)
 rw [<- hS];rw [show World.alloc w (.cells #[.pointer none,.slice none 0 0] 117)=w0 from hw0.symm];unfold Zn at hw1;rw [<- hw1];clear hw0 hw1 hS hz0;go_wp2_with fail
 (with_reducible refine SC.out.mono ?_)
 rintro e w2 ⟨rfl,h2,b2⟩;have ST:=Lib.hid (Tryz.Builder_String_any_k S S _ w2 h2.b (by have:=h2.f.lt;omega));have B2:=Lib.hid (B1.out.trans b2);clear SC h2 b2 fc;go_wp2_with fail
 refine ST.out.mono ?_;rintro e w3 ⟨rfl,-,b3,-⟩;go_wp2;go_ret;exact ⟨rfl,by rw [<- HS.out];exact B2.out.trans b3⟩
open Go.RowKit
def Bx.d (x:Bx):D:=.st [.str x.text,.int .i64 x.ht,.int .i64 x.gr,.bool x.keep,.bool x.fl,dZ x.an]
def tL (s:ByteArray) (h g:Int) (k f:Bool) (va:js3):List js3:=[.string s,.int .i64 h,.int .i64 g,.bool k,.bool f,va]
theorem Bx.open_ {ok:Nat->Prop} {w:js1} {x:Bx} {cs:List js3} (h:Rd ok w x.d cs):∃ va,cs=tL x.text x.ht x.gr x.keep x.fl va/\Rd ok w (dZ x.an) [va]:=by obtain ⟨rows,hr,rfl⟩:=Rd.lD h;obtain ⟨r0,t0,rfl,h0,hr⟩:=hr.aD;obtain ⟨r1,t1,rfl,h1,hr⟩:=hr.aD;obtain ⟨r2,t2,rfl,h2,hr⟩:=hr.aD;obtain ⟨r3,t3,rfl,h3,hr⟩:=hr.aD;obtain ⟨r4,t4,rfl,h4,hr⟩:=hr.aD;obtain ⟨r5,t5,rfl,h5,hr⟩:=hr.aD;obtain rfl:=hr.bY;obtain ⟨v,rfl,h5⟩:=Rd.mJ h5;rw [h0.aY,h1.ko,h2.ko,h3.nN,h4.nN];exact ⟨v,rfl,h5⟩
theorem Bx.l6 {ok:Nat->Prop} {w:js1} (x:Bx) {va:js3} (h:Rd ok w (dZ x.an) [va]):Rd ok w x.d (tL x.text x.ht x.gr x.keep x.fl va):=
 Rd.zV (rows:=[[.string x.text],[.int .i64 x.ht],[.int .i64 x.gr],[.bool x.keep],[.bool x.fl],[va]])
  (aL.cons (Rd.dM _ _ _) (aL.cons (Rd.vO _ _ _ _) (aL.cons (Rd.vO _ _ _ _) (aL.cons (Rd.BI _ _ _) (aL.cons (Rd.BI _ _ _) (aL.one h))))))
def bG (x:Bx):List js3:=tL x.text x.ht x.gr x.keep x.fl (.slice none 0 0)
theorem GV:(Tryz.prog.info? 54).map (fun i=>(i.zero,i.size,i.bytes))=some (some (.agg #[.string ByteArray.empty,.int .i64 0,.int .i64 0,.bool false,.bool false,.slice none 0 0]),6,64):=by kernel_rfl
theorem Nt {s:ByteArray} {h g:Int} {k f:Bool} {a:Option Addr} {n c:Nat}:∀ u∈tL s h g k f (.slice a n c),u.oneCell'=true:=by intro u hu;simp [tL] at hu;rcases hu with rfl | rfl | rfl | rfl | rfl | rfl<;>simp [Value.oneCell']
theorem Jq (l:List Bx) (rs:List (List js3)) (ok:Nat->Prop) (w:js1) (h:aL ok w (l.map Bx.d) rs):∀ u∈rs.flatten,u.oneCell'=true:=by
 induction l generalizing rs with
 | nil=>
  have:=h.bY;subst this;simp
 | cons x l ih=>
  obtain ⟨r,rs,rfl,h1,h2⟩:=h.aD;intro u hu;rw [List.flatten_cons] at hu;rcases List.mem_append.1 hu with hu | hu
  ·obtain ⟨va,rfl,hv⟩:=Bx.open_ h1;obtain ⟨a,n,c,rfl⟩:=Rd.au hv;exact Nt u hu
  ·exact ih rs h2 u hu
structure aM (P:Nat->Prop) (w w':js1):Prop where
 os:w'.os=w.os
 tape:w'.tape=w.tape
 output:w'.output=w.output
 size:w.heap.size<=w'.heap.size
 blk:∀ b,b<w.heap.size->¬ P b->w'.heap[b]?=w.heap[b]?
section
variable {P P' Q:Nat->Prop} {w w1 w':js1}
theorem aM.refl (P:Nat->Prop) (w:js1):aM P w w:=⟨rfl,rfl,rfl,joz _,fun _ _ _=>rfl⟩
theorem aM.mono (h:aM P w w') (hp:∀ b,b<w.heap.size->P b->P' b):aM P' w w':=⟨h.os,h.tape,h.output,h.size,fun b hb hn=>h.blk b hb (fun e=>hn (hp b hb e))⟩
theorem aM.trans (h:aM P w w1) (h2:aM Q w1 w') (hq:∀ b,b<w.heap.size->Q b->P b):aM P w w':=
 ⟨h2.os.trans h.os,h2.tape.trans h.tape,h2.output.trans h.output,jp0 h.size h2.size,fun b hb hn=>(h2.blk b (Nat.lt_of_lt_of_le hb h.size) (fun e=>hn (hq b hb e))).trans (h.blk b hb hn)⟩
theorem aM.of_below (h:js2 w.heap.size w w') (P:Nat->Prop):aM P w w':=⟨h.os,h.tape,h.output,h.size,fun b hb _=>h.block b hb⟩
theorem aM.below (h:aM P w w') (n:Nat) (hn:n<=w.heap.size) (hp:∀ b,P b->n<=b):js2 n w w':=⟨h.os,h.tape,h.output,h.size,fun b hb=>h.blk b (by omega) (fun e=>by have:=hp b e;omega)⟩
theorem aM.set (w:js1) (p j:Nat) (u:js3):aM (·=p) w (w.setCell ⟨p,j,none⟩ u):=⟨rfl,rfl,rfl,by simp [World.setCell],fun b _ hn=>Below.heap_setCell w ⟨p,j,none⟩ u b hn⟩
theorem aM.grown {row:Option Nat} (h:w.grownBy w' row):aM (fun b=>row=some b) w w':=⟨h.os,h.tape,h.output,h.size,fun b hb hn=>h.block b hb (fun e=>hn e.symm)⟩
theorem CB.fr {T:TypeId} {p:Nat} {cs:List js3} (h:CB T p cs w) (hf:aM P w w') (hn:¬ P p):CB T p cs w':=(hf.blk p h.lt hn).trans h
theorem Rd.fr {ok:Nat->Prop} {d:D} {cs:List js3} (h:Rd ok w d cs) (hf:aM P w w') (hn:∀ b,ok b->¬ P b):Rd ok w' d cs:=Rd.keep (fun b h1 h2=>⟨h1,hf.blk b h2 (hn b h1)⟩) _ _ h
theorem dh {B:Nat} {e:TypeId} {k:Nat} {v:js3} {n:Nat} {xs:List js3} (h:w.ownsRow B e k v n xs) (hf:aM P w w') (hn:∀ g,v.ownBlock=some g->¬ P g):w'.ownsRow B e k v n xs:=by
 have hl:=h.lt;obtain ⟨h1,h2⟩:=h;refine ⟨h1,?_⟩;rcases h2 with h2 | ⟨g,cap,cur,rfl,r2,r3,r4⟩
 ·exact .inl h2
 ·exact .inr ⟨g,cap,cur,rfl,r2,(hf.blk g (hl g rfl).2 (hn g rfl)).trans r3,r4⟩
end
def aO (T:TypeId) (k:Nat) (ok:Nat->Prop) (n U:Nat) (ds:List D) (rows:List (List js3)) (v:js3) (w:js1):Prop:=n<=w.heap.size/\eu T k ok U (zf n w) ds rows v w
section
variable {T:TypeId} {k n U:Nat} {ok ok' P:Nat->Prop} {w0 w w':js1} {ds es:List D} {rows fM:List (List js3)} {v v':js3}
theorem eu.toC (h:eu T k ok U w0 ds rows v w):aO T k ok w0.heap.size U ds rows v w:=by have hz:=Rp (w:=w) h.gH.size;have hb:=oL (w:=w) h.gH.size;exact ⟨h.gH.size,by rw [hz];exact h.own,by rw [hz];exact h.red,h.len,by rw [hz];exact hb,h.oU,by rw [hz];exact h.le0,h.Uz⟩
theorem aO.ofU {w0:js1} (h:eu T k ok U w0 ds rows v w) (hn:w0.heap.size=n):aO T k ok n U ds rows v w:=by subst hn;exact h.toC
theorem aO.sz (h:aO T k ok n U ds rows v w):(zf n w).heap.size=n:=Rp h.1
theorem aO.nil (T:TypeId) (k:Nat) (ok:Nat->Prop) {n:Nat} {w:js1} (hn:n<=w.heap.size):aO T k ok n n [] [] (.slice none 0 0) w:=by have hz:=Rp hn;have h:=eu.nil T k ok (zf n w);rw [hz] at h;refine ⟨hn,⟨by rw [hz];exact (⟨by simp,.inl ⟨rfl,rfl⟩⟩:w.ownsRow n T k (.slice none 0 0) 0 []),aL.none,by simp,by rw [hz];exact oL hn,by simp [Value.ownBlock],by rw [hz];exact joz _,hn⟩⟩
theorem aO.own (h:aO T k ok n U ds rows v w):w.ownsRow n T k v ds.length rows.flatten:=by have:=h.2.own;rwa [h.sz] at this
theorem aO.red (h:aO T k ok n U ds rows v w):aL (fun b=>(ok b\/n<=b)/\v.ownBlock≠some b/\b<U) w ds rows:=by have:=h.2.red;rwa [h.sz] at this
theorem aO.l6 (hn:n<=w.heap.size) (h1:w.ownsRow n T k v ds.length rows.flatten) (h2:aL (fun b=>(ok b\/n<=b)/\v.ownBlock≠some b/\b<U) w ds rows) (h3:∀ r∈rows,r.length=k) (h4:∀ g,v.ownBlock=some g->g<U) (h5:n<=U) (h6:U<=w.heap.size):aO T k ok n U ds rows v w:=by have hz:=Rp (w:=w) hn;exact ⟨hn,by rw [hz];exact h1,by rw [hz];exact h2,h3,by rw [hz];exact oL hn,h4,by rw [hz];exact h5,h6⟩
theorem aO.le (h:aO T k ok n U ds rows v w):n<=U:=by have:=h.2.le0;rwa [h.sz] at this
theorem aO.fr (h:aO T k ok n U ds rows v w) (hf:aM P w w') (ho:∀ b,ok b->ok' b) (hn:∀ b,b<w.heap.size->(ok b\/n<=b)->¬ P b):aO T k ok' n U ds rows v w':=by have hl:=h.own.lt;have hs:=hf.size;refine aO.l6 (jp0 h.1 hs) ?_ (aL.keep (fun b hb hlt=>⟨⟨hb.1.imp (ho b) id,hb.2⟩,hf.blk b hlt (hn b hlt hb.1)⟩) _ _ h.red) h.2.len h.2.oU h.le (jp0 h.2.Uz hs);exact dh h.own hf (fun g hg=>hn g (hl g hg).2 (.inr (hl g hg).1))
theorem aO.weaken (h:aO T k ok n U ds rows v w) (ho:∀ b,ok b->ok' b):aO T k ok' n U ds rows v w:=h.fr (aM.refl (fun _=>False) w) ho (fun _ _ _ h=>h)
theorem aO.top (h:aO T k ok n U ds rows v w):aO T k ok n w.heap.size ds rows v w:=⟨h.1,h.2.top⟩
theorem aO.below (h:aO T k ok n U ds rows v w) (hb:js2 w.heap.size w w'):aO T k ok n U ds rows v w':=h.fr (aM.of_below hb (fun _=>False)) (fun _ h=>h) (fun _ _ _ h=>h)
theorem aL.Zp {ok:Nat->Prop} {w:js1}:∀ {l:List D} {rows:List (List js3)},aL ok w l rows->∀ (i:Nat) (d:D) (r:List js3),i<l.length->Rd ok w d r->aL ok w (l.set i d) (rows.set i r)
 | [],_,_,i,d,r,h1,_=>by simp at h1
 | x::xs,_,h,0,d,r,h1,h2=>by
  obtain ⟨r0,rs,rfl,h3,h4⟩:=h.aD;rw [List.set_cons_zero,List.set_cons_zero];exact aL.cons h2 h4
 | x::xs,_,h,i+1,d,r,h1,h2=>by
  obtain ⟨r0,rs,rfl,h3,h4⟩:=h.aD;rw [List.set_cons_succ,List.set_cons_succ];exact aL.cons h3 (aL.Zp h4 i d r (by simpa using h1) h2)
theorem aO.store {g c m:Nat} (h:aO T k ok n U ds rows (.slice (some ⟨g,0,none⟩) m c) w) (i j:Nat) (r:List js3) (d:D) (u:js3) (hr:rows[i]?=some r) (hj:j<k) (hx:Rd (fun b=>(ok b\/n<=b)/\b≠g) w d (r.set j u)) : aO T k ok n w.heap.size (ds.set i d) (rows.set i (r.set j u)) (.slice (some ⟨g,0,none⟩) m c) (w.setCell ⟨g,i*k+j,none⟩ u):=by
 have hm:m=ds.length:=by obtain ⟨a',c',e'⟩:=h.2.slice;simp at e';exact e'.2.1
 subst hm;have hil:i<ds.length:=by have:=(List.getElem?_eq_some_iff.1 hr).1;have:=h.red.len;omega
 have hg:=h.own.lt g rfl;have hs:(w.setCell ⟨g,i*k+j,none⟩ u).heap.size=w.heap.size:=by simp [World.setCell]
 have hu:=h.top;refine aO.l6 (by rw [hs];exact h.1) ?_ ?_ ?_ (fun g' e=>by rw [<- hs];have:=(h.own.stored (i*k+j) u).1.lt g' e;omega) h.1 (by rw [hs];exact joz _)
 ·have:=(h.own.stored (i*k+j) u).1;rw [vP k rows h.2.len i j r u hr hj] at this
  rwa [List.length_set]
 ·refine aL.keep (fun b hb hlt=>⟨hb,Below.heap_setCell w ⟨g,i*k+j,none⟩ u b ?_⟩) _ _ (aL.Zp hu.red i d _ hil (Rd.keep (fun b hb hlt=>⟨⟨hb.1,fun e=>?_,hlt⟩,rfl⟩) _ _ hx))
  ·intro e;exact hb.2.1 (by rw [e];rfl)
  ·exact hb.2 (jp7 e).symm
 ·intro q hq;rcases List.mem_or_eq_of_mem_set hq with hq | rfl
  ·exact h.2.len q hq
  ·rw [List.length_set];exact h.2.len r (jpk hr)
theorem aO.get {g c m i:Nat} {r:List js3} {d:D} (h:aO T k ok n U ds rows (.slice (some ⟨g,0,none⟩) m c) w) (hr:rows[i]?=some r) (hd:ds[i]?=some d) : Rd (fun b=>(ok b\/n<=b)/\b≠g) w d r/\∀ j u,r[j]?=some u->w.cell? ⟨g,i*k+j,none⟩=some u:=by
 have:=h.2.get hr hd
 rwa [h.sz] at this
end
structure mo (m:Nat) (W:Int) (st:St) (vp:js3) (w:js1):Prop where
 cb:CB 84 m [.int .i64 W,.int .i64 (st.groups:Int),vp,.int .i64 (st.count:Int),.bool st.aV,.int .i64 (st.err:Int)] w
 own:w.ownsRow m 9 1 vp st.pend.length (st.pend.map Value.string)
section
variable {m:Nat} {W:Int} {st:St} {vp:js3} {w w':js1} {P:Nat->Prop}
theorem mo.fr (h:mo m W st vp w) (hf:aM P w w') (hm:¬ P m) (hp:∀ g,vp.ownBlock=some g->¬ P g):mo m W st vp w':=⟨h.cb.fr hf hm,dh h.own hf hp⟩
theorem mo.below (h:mo m W st vp w) (hb:js2 w.heap.size w w'):mo m W st vp w':=h.fr (aM.of_below hb (fun _=>False)) (fun h=>h) (fun _ _ h=>h)
theorem iM {T T':TypeId} {B k B' k' n n':Nat} {v v':js3} {xs xs':List js3} (h:w.ownsRow B T k v n xs) (h':w.ownsRow B' T' k' v' n' xs') (hT:T≠T'):∀ g,v.ownBlock=some g->v'.ownBlock≠some g:=by intro g e e';obtain ⟨c,fz,h1⟩:=Lib.ownsRow_kind h g e;obtain ⟨c',fz',h2⟩:=Lib.ownsRow_kind h' g e';rw [h1] at h2;simp at h2;exact hT h2.2.1
theorem oz {T T':TypeId} {B k n p:Nat} {v:js3} {xs cs:List js3} (h:w.ownsRow B T k v n xs) (h':CB T' p cs w) (hT:T≠T'):v.ownBlock≠some p:=by intro e;obtain ⟨c,fz,h1⟩:=Lib.ownsRow_kind h p e;unfold CB at h';rw [h1] at h';simp at h';exact hT h'.2.1
theorem mo.slice (h:mo m W st vp w):∃ a c,vp=.slice a st.pend.length c:=q01 h.own
end
theorem D9 {w w':js1} {b:Nat} (h:w'.heap[b]?=w.heap[b]?) (j:Nat):w'.frozen? ⟨b,j,none⟩=w.frozen? ⟨b,j,none⟩:=by unfold World.frozen?;simp only [h]
theorem tN {T:TypeId} {p:Nat} {cs:List js3} {w:js1} (h:CB T p cs w) (j:Nat):w.frozen? ⟨p,j,none⟩=false:=by unfold CB at h;simp [World.frozen?,h]
theorem rY {T:TypeId} {p:Nat} {cs:List js3} {w:js1} (h:CB T p cs w) (j:Nat) (u:js3):CB T p (cs.set j u) (w.setCell ⟨p,j,none⟩ u):=by unfold CB at h ⊢;simp [World.setCell,Array.getElem?_modify,h]
def aI (m:Nat) (W:Int) (w:js1) (vp:js3) (r:List Bx × St) (e:Ending) (w':js1):Prop:=
 ∃ v rows bS,e=.returned v/\aO 54 6 (fun b=>vp.ownBlock=some b/\bS.ownBlock≠some b) w.heap.size w'.heap.size (r.1.map Bx.d) rows v w'/\mo m W r.2 bS w' /\
  (r.2.err=0->bS=vp\/bS=.slice none 0 0)/\(∀ g,bS.ownBlock=some g->vp.ownBlock=some g\/w.heap.size<=g)/\aM (fun b=>b=m\/vp.ownBlock=some b) w w'
open Go.RowKit
def oh (w:js1):Prop:=∃ m,w.cell? ⟨0,0,none⟩=some (.int .i64 m)
theorem oh.below {w w':js1} (h:oh w) (hb:js2 w.heap.size w w'):oh w':=by obtain ⟨m,h⟩:=h;exact ⟨m,(hb.cell (p:=⟨_,0,none⟩) (jY h)).trans h⟩
theorem vQ (s:ByteArray) (a b:Nat):(s.extract a b).size<=s.size:=by rw [ByteArray.size_extract];omega
theorem tO (sep:ByteArray) (sv:Nat):∀ (k:Nat) (s:ByteArray),∀ x∈Lib.splitB sep sv k s,x.size<=s.size
 | 0,s,x,hx=>by
  rw [Lib.splitB] at hx;simp at hx;rw [hx];exact joz _
 | k+1,s,x,hx=>by
  rw [Lib.splitB] at hx;split at hx
  ·simp at hx;rw [hx];exact joz _
  ·rcases List.mem_cons.1 hx with rfl | hx
   ·exact vQ _ _ _
   ·exact jp0 (tO sep sv k _ x hx) (vQ _ _ _)
theorem fZ (s:ByteArray):∀ x∈fT s,x.size<=s.size:=tO _ _ _ _
theorem fA (s:ByteArray):(fT s).length=Lib.countB s Dz+1:=Lib.splitB_all Dz (by decide) 0 _ s rfl
theorem jM (s:ByteArray):(fT s).length<=s.size+1:=by rw [fA];have:=Lib.countB_le Dz (by decide) s.size s (joz _);omega
theorem mK:∀ (l:List ByteArray),lC l=0->∀ x∈l,jL x=0
 | [],_,x,hx=>by cases hx
 | y::l,h,x,hx=>by
  rw [lC] at h;split at h
  ·rename_i h1;exact absurd h h1
  ·rename_i h1
   rcases List.mem_cons.1 hx with rfl | hx
   ·exact Decidable.not_not.1 h1
   ·exact mK l h x hx
theorem oM {s:ByteArray} (h:jL s=0):(fJ s).length<=4096/\∀ x∈fJ s,dA x<=1048576:=by
 unfold jL at h;split at h
 ·simp at h
 ·rename_i h1
  exact ⟨by omega,fun x hx=>by
   apply Nat.le_of_not_lt;exact fun h2=>h1 (.inr ⟨x,hx,h2⟩)⟩
theorem tQ (wd:Int) (l:List ByteArray) (k:Nat) (x:ByteArray) (h:l[k]?=some x):qj wd (l.take (k+1))=qj wd (l.take k)++og x wd:=by unfold qj;rw [jq3,h,List.flatMap_append];simp
theorem zW (wd:Int) (l:List ByteArray) (k:Nat):(qj wd (l.take k)).length<=(qj wd l).length:=by have h:l=l.take k++l.drop k:=(List.take_append_drop k l).symm;have:=congrArg (fun l=>(qj wd l).length) h;simp only [qj,List.flatMap_append,jp4] at this;unfold qj;omega
theorem gQ.reads {w:js1} {v:js3} {n:Nat} {xs:List js3} (h:gQ w 1 v n xs):∃ a c,v=.slice a n c/\Reads w w.heap.size 1 a n xs:=by
 obtain ⟨h1,a,c,rfl,-,-,h2⟩:=h;refine ⟨a,c,rfl,h1,fun hp=>?_⟩;rcases h2 with h2 | ⟨b,off,rfl,hc⟩
 ·omega
 ·refine ⟨⟨b,off,none⟩,rfl,?_,fun j u hu=>?_⟩
  ·obtain ⟨u,hu⟩:∃ u,xs[0]?=some u:=⟨_,joq (by omega)⟩;exact jY (hc 0 u hu)
  ·have e:((⟨b,off,none⟩:Addr).add j)=⟨b,off+j,none⟩:=by unfold Addr.add;split<;>simp_all
   rw [e];exact hc j u hu
def Wj (w:js1) (L:List ByteArray) (e:Ending) (w':js1):Prop:=∃ v,e=.returned (.tuple #[v,.int .i64 0])/\w'.ownsRow w.heap.size 9 1 v L.length (L.map Value.string)/\js2 w.heap.size w w'
def Nu (w:js1) (wd:Int) (ps:List ByteArray) (v vi:js3) (wr:js1):Prop:=
 ∃ k:Nat,k<=ps.length/\vi=.int .i64 k/\wr.ownsRow w.heap.size 9 1 v (qj wd (ps.take k)).length ((qj wd (ps.take k)).map Value.string)/\js2 w.heap.size w wr
theorem KR (li:List aj) (vl:js3) (wd:Int) (w:js1) (h:Rd (·<w.heap.size) w (fK li) [vl]) (hlen:(aj.ay li).length<=100000) (he:fU li=0) (hl:(qj wd (fT (fq li))).length<=1000000) (hd0:1<=wd) (hd1:wd<=1048576) (ht:TabAt w) (hml:oh w) : Calls Tryz.prog 132 #[vl,.int .i64 wd] w (Wj w (dB li wd)):=by
 obtain ⟨i0,hi0,hz0,hz1,hz2⟩:=info_parts ku;have SC:=Lib.hid (rX li vl w h (by omega));have hsz:(fq li).size<=100000:=by show (aj.ay li).toArray.size<=_;rw [List.size_toArray];exact hlen
 have Rq:=Lib.hid (mK _ he);have HPS:=Lib.hid (fZ (fq li));have BJ:=Lib.hid (fA (fq li));have jgk:=jM (fq li);have MR:Hid (∀ W,oh W->Calls Tryz.prog 135 #[.string (fq li),.string ⟨#[10]⟩] W fun e w'=>e=.returned (.slice (some ⟨W.heap.size,0,none⟩) (fT (fq li)).length (fT (fq li)).length)/\w'=W.alloc (.cells ((fT (fq li)).map Value.string).toArray 9)):=fun W hW=>by
  obtain ⟨m,hm⟩:=hW;have h:=Tryz.strings_Split (fq li) Dz m W (by omega) hm (by decide);rw [fA];exact h
 have HLB:Hid (dB li wd=mI (qj wd (fT (fq li)))):=rfl;obtain ⟨V,hV⟩:∃ V,V=dB li wd:=⟨_,rfl⟩;rw [<- hV] at HLB ⊢;have HT:=Lib.hid ht;have HML:=Lib.hid hml;have HL:=Lib.hid hl;generalize fT (fq li)=ps at *;clear hV h hlen he ht hml hl;generalize fq li=s at *;go_enter Tryz.func132,Tryz.ntmps132;go_wp2_with fail
 (with_reducible refine SC.out.mono ?_)
 rintro e w1 ⟨rfl,b1⟩;have SP:=Lib.hid (MR.out w1 (HML.out.below b1));have B1:=Lib.hid b1;clear SC MR b1;go_wp2_with fail
 (with_reducible refine SP.out.mono ?_)
 rintro e w2 ⟨rfl,hw2⟩;obtain ⟨g,hg⟩:∃ g,g=w1.heap.size:=⟨_,rfl⟩;obtain ⟨n,hn⟩:∃ n,n=ps.length:=⟨_,rfl⟩;have hk2:CB 9 g (ps.map Value.string) w2:=by rw [hw2,hg];exact CB.new _ _ _
 have hb2:js2 w.heap.size w w2:=by rw [hw2];exact B1.out.alloc B1.out.size _
 have hn1:n<=100001:=by omega
 rw [<- hg,<- hn];have HK:=Lib.hid hk2;have HB2:=Lib.hid hb2;have HN:=Lib.hid hn;have R0:Hid (Nu w2 wd ps (.slice none 0 0) (.int .i64 0) w2):=⟨0,jpj _,rfl,by simpa [qj] using Nv _ _ _ _,jox _ _⟩;clear hw2 hg hn hk2 hb2 SP;go_wp2
 go_loopw [6,15] (fun v vi wr=>Nu w2 wd ps v vi wr) (fun _ vi _=>n-(intOf vi).toNat)
 case atStart=>exact R0.out
 case round=>
  clear R0;obtain ⟨k,hk,rfl,hown,hbel⟩:=hrel;by_cases hlt:k<n
  ·obtain ⟨x,hx⟩:∃ x,ps[k]?=some x:=⟨_,joq (by have:=HN.out;omega)⟩;have hxs:=HPS.out x (jpk hx);have Wm:=oM (Rq.out x (jpk hx));have c0:wr.cell? ⟨g,k,none⟩=some (.string x):=(HK.out.below hbel).cell k _ (by rw [List.getElem?_map,hx];rfl);have hbw:js2 w.heap.size w wr:=aP HB2.out hbel;have LC:=Lib.hid (zX wr x wd (by omega) Wm.1 Wm.2 hd0 hd1 (HT.out.below hbw));have hsn:=tQ wd ps k x hx;have hle:=zW wd ps (k+1);rw [hsn,jp4] at hle;have hl:=HL.out;obtain ⟨m,hm⟩:∃ m,m=(qj wd (ps.take k)).length:=⟨_,rfl⟩;have hm1:m+(og x wd).length<=1000000:=by omega
   rw [<- hm] at hown;obtain ⟨av,cv,rfl⟩:=q01 hown;have HOW:=Lib.hid hown;have HM:=Lib.hid hm;have rZ:=Lib.hid hsn;have Jr:=Lib.hid hbel;clear hx hxs Wm hbw hsn hle hl hm hown hbel;go_wp2_with fail
   (with_reducible refine LC.out.mono ?_)
   rintro e w4 ⟨v4,rfl,h4,b4⟩;have h4:w4.ownsRow wr.heap.size 9 1 v4 (og x wd).length ((og x wd).map Value.string):=h4;obtain ⟨a4,c4,rfl,Wn⟩:=(gQ.bV h4).reads;obtain ⟨m4,BK⟩:∃ m4,m4=(og x wd).length:=⟨_,rfl⟩;rw [<- BK] at Wn hm1 ⊢;have HR4:=Lib.hid Wn;have HM4:=Lib.hid BK;have GX:=Lib.hid (zY HOW.out b4);have yK:=Lib.hid (aP Jr.out b4);clear h4 Wn BK b4 LC c0;go_wp2_with (at_builtin;refine Dy _ rfl _ _ 35 rfl w2.heap.size 9 i0 _ 1 16 Tryz.underlying35 hi0 hz0 hz1 hz2 rfl (by decide) _ _ _ rfl GX.out w4.heap.size _ _ _ _ rfl HR4.out ?x1 ?x2 ?x3 ?x4 ?_)
   case x1=>
    intro u hu;obtain ⟨s,_,rfl⟩:=List.mem_map.1 hu;rfl
   case x2=>unfold maxLen;omega
   case x3=>omega
   case x4=>exact yK.out.size
   intro v5 w5 h5 hg5 Ea;have b5:js2 w2.heap.size w2 w5:=yK.out.grown hg5 yK.out.size (fun b e=>(GX.out.lt b e).1);have HF:Hid (Nu w2 wd ps v5 (.int .i64 ((k+1:Nat):Int)) w5):=⟨k+1,by have:=HN.out;omega,rfl,by rw [rZ.out,jp4,List.map_append,<- HM.out,<- HM4.out];exact h5,b5⟩;clear h5 hg5 Ea b5;go_wp2;go_roundw;case rel=>exact HF.out
   case measure=>simp [intOf];omega
  ·have hkn:k=ps.length:=by have:=HN.out;omega
   rw [hkn,jq5] at hown;have hkn':k=n:=by have:=HN.out;omega
   obtain ⟨m,hm⟩:∃ m,m=(qj wd ps).length:=⟨_,rfl⟩;rw [<- hm] at hown;obtain ⟨av,cv,rfl⟩:=q01 hown;have HOW:=Lib.hid hown;have HM:=Lib.hid hm;have zZ:=Lib.hid (aP HB2.out hbel);have jgq:=HB2.out.size;have Jr:=hbel.size;clear hkn hm hown hbel;by_cases hm0:m=0
   ·subst hm0;have hE:V=[⟨#[]⟩]:=by
     rw [HLB.out];unfold mI;rw [if_pos (List.length_eq_zero_iff.1 HM.out.symm)]
    have HE:=Lib.hid hE;clear hE;go_wp2
    go_ret2
    rw [HE.out];refine ⟨_,rfl,?_,zZ.out.alloc zZ.out.size _⟩;exact ⟨by simp,.inr ⟨wr.heap.size,1,#[.string ⟨#[]⟩],rfl,zZ.out.size,heap_alloc_new wr _,by simp,by unfold maxLen;omega,by simp,by simp⟩⟩
   ·have q0:((m:Int)==0)=false:=by simpa using hm0
    have hE:V=qj wd ps:=by rw [HLB.out];unfold mI;rw [if_neg (fun e=>hm0 (by rw [HM.out,e];rfl))]
    have HE:=Lib.hid hE;have HM0:=Lib.hid hm0;clear hE hm0;go_wp2
    go_ret2
    rw [HE.out];exact ⟨_,rfl,by rw [<- HM.out];exact mG HOW.out jgq,zZ.out⟩
open Go
section
variable {H:Type} {enc:TypeId × js3->H}
theorem BN {a:Assume} {C:Checked} {os:Os} {f:FuncId} {fn:Func} {s:ChangeSpec} {conds:List PathCond} {apart fresh handsOn again:Bool} {X:js1->Array js3->Prop} (hX:∀ (w w':js1) (args:Array js3),w.heap=w'.heap->X w args->X w' args) (own:ownKnob C.prog.godebug=none) (started:os.Started) (noInit:C.prog.inits.idxOf? f=none) (hfn:C.prog.funcs[f]?=some fn) (witness:∃ (w:js1) (tape:Tape) (i:Input),w.os=os/\(w.forCall tape i).Shaped C.prog/\i.vars=[]/\Input.okWide C.prog (w.forCall tape i) .any w.heap.size f i /\ ((s.pre enc C.prog fn conds apart (w.forCall tape i).memory i.args/\X (w.forCall tape i).memory i.args)/\sizedMet enc C.prog fn (OpenSpec.ofChange s) apart (w.forCall tape i).memory i.args)/\a.holds C.prog (lone (Frame.enter C.prog f i.args .normal) [] (w.forCall tape i))) (contract:∀ (W:js1) (base:Nat) (args:Array js3) (ds gs:List (DataW H)) (before:List MemPlace), (∀ (j:Nat) t v,fn.params[j]?=some t->args[j]?=some v->Value.okWide C.prog W .any base t v)->DataW.Whole enc C.prog fn.params.toList s.vars apart W args.toList ds gs before -> (DataW.weightsEach C.prog (fn.params.toList++s.plain.varTypes C.prog) (ds++gs)).all (·<=reachBytes)=true->X W args->W.ShapedOpen C.prog -> Calls C.prog f args W fun e W'=>∃ v,e=.returned v/\s.post enc C.prog fn apart fresh handsOn again W args v W') : ReturnsInHanded a C os f .any (fun w args=>(s.pre enc C.prog fn conds apart w args/\X w args)/\sizedMet enc C.prog fn (OpenSpec.ofChange s) apart w args) (s.post enc C.prog fn apart fresh handsOn again):=
 returnsInHanded_of_calls own started noInit witness fun w tape i _ hsh _ hok hpre _=>by
  obtain ⟨_,_,_,fn',hfn',_,_,_,_,hval⟩:=hok;obtain rfl:=jp7 (hfn'.symm.trans hfn);obtain ⟨⟨⟨ds,gs,before,hw,_⟩,hx⟩,hz⟩:=hpre;refine (contract _ w.heap.size i.args ds gs before hval (DataW.Whole.of_heap (w':=w.forCall tape i) (by rfl) hw) (hz.weights hw) (hX _ _ _ (by rfl) hx) hsh).mono fun e W' h=>?_
  obtain ⟨v,rfl,hp⟩:=h;exact ChangeSpec.post_blind hp
end
theorem Eb {W:js1} (h:W.ShapedOpen Tryz.prog):oh W:=
 cell_of_shapedOpen_int (t:=3) (zero:=#[.int .i64 0]) h (of_decide_eq_true (by kernel_rfl)) (by kernel_rfl) rfl (by kernel_rfl) (by kernel_rfl) Tryz.underlying3
open Go.RowKit
def Gp (o q:Nat):js3:=.func (.func 187) #[] #[.pointer (some ⟨o,0,none⟩),.pointer (some ⟨q,0,none⟩)]
structure Nw (o q B:Nat) (L:List ByteArray) (v:js3) (w:js1):Prop where
 k2:aH o v 35 w
 k3:aH q (Gp o q) 122 w
 own:w.ownsRow B 9 1 v L.length (L.map Value.string)
structure GY (o q B:Nat) (L:List ByteArray) (v:js3) (w w':js1) (v':js3):Prop where
 i:Nw o q B L v' w'
 fr:aM (fun b=>b=o\/v.ownBlock=some b) w w'
 own:∀ g,v'.ownBlock=some g->v.ownBlock=some g\/w.heap.size<=g
section
variable {o q B:Nat} {L L1 L2:List ByteArray} {v v1 v2:js3} {w w1 w2 w3:js1}
theorem Nw.no (h:Nw o q B L v w):v.ownBlock≠some o/\v.ownBlock≠some q/\q≠o:=
 ⟨oz (T':=35) (cs:=[v]) h.own h.k2 (by decide),oz (T':=122) (cs:=[Gp o q]) h.own h.k3 (by decide),fun e=>by
  have h1:=h.k2;have h2:=h.k3;unfold aH at h1 h2;rw [e,h1] at h2;simp at h2⟩
theorem GY.refl (h:Nw o q B L v w):GY o q B L v w w v:=⟨h,aM.refl _ _,fun _ e=>.inl e⟩
theorem GY.trans (h1:GY o q B L1 v w w1 v1) (h2:GY o q B L2 v1 w1 w2 v2):GY o q B L2 v w w2 v2:=
 ⟨h2.i,h1.fr.trans h2.fr (fun b hb e=>e.imp id (fun e=>by rcases h1.own b e with h | h;exact h;omega)),fun g e=>by
  rcases h2.own g e with h | h
  ·exact h1.own g h
  ·exact .inr (jp0 h1.fr.size h)⟩
theorem Nw.alloc (h:Nw o q B L v w) (x:Obj):Nw o q B L v (w.alloc x):=⟨h.k2.alloc x,h.k3.alloc x,h.own.alloc x⟩
theorem GY.alloc (h:GY o q B L v w w1 v1) (x:Obj):GY o q B L v w (w1.alloc x) v1:=
 ⟨h.i.alloc x,h.fr.trans (aM.of_below ((jox _ w1).alloc (joz _) x) (fun _=>False)) (fun _ _ h=>h.elim),h.own⟩
theorem Nw.push {val:ByteArray} {x:Obj} (h:Nw o q B L v w) (hg:(w.alloc x).grownBy w3 v.ownBlock) (hown:w3.ownsRow B 9 1 v2 (L.length+1) (L.map Value.string++[.string val])) (hat:v2.ownBlock=v.ownBlock\/v2.ownBlock=some (w.alloc x).heap.size) : aH o v 35 w3/\GY o q B (L++[val]) v w (w3.setCell ⟨o,0,none⟩ v2) v2:=by
 obtain ⟨n1,n2,n3⟩:=h.no;have hz:(w.alloc x).heap.size=w.heap.size+1:=World.size_alloc _ _;have b2:aH o v 35 w3:=(hg.block o (by have:=h.k2.lt;omega) (fun e=>n1 e.symm)).trans (h.k2.alloc x);have b3:aH q (Gp o q) 122 w3:=(hg.block q (by have:=h.k3.lt;omega) (fun e=>n2 e.symm)).trans (h.k3.alloc x);have hf:=(aM.of_below ((jox _ w).alloc (joz _) x) (fun b=>b=o\/v.ownBlock=some b)).trans (aM.grown hg) (fun b _ e=>.inr e);have hne:v2.ownBlock≠some o:=oz (T':=35) (cs:=[v]) hown b2 (by decide);refine ⟨b2,⟨b2.set v2,b3.far n3 v2,?_⟩,hf.trans (aM.set w3 o 0 v2) (fun b _ e=>.inl e),fun g e=>?_⟩
 ·rw [jp4,List.length_singleton,List.map_append];exact dh hown (aM.set w3 o 0 v2) (fun b e e'=>hne (e' ▸ e))
 ·rcases hat with h' | h'
  ·exact .inl (h' ▸ e)
  ·rw [h'] at e;exact .inr (by have:=jp7 e;omega)
theorem GZ (l:List aj) (k:Nat) (kd:Int) (t d ti:ByteArray) (at_:At) (ar:List ByteArray) (ci:List Ci) (ks:List aj) (h:l[k]?=some (.mk kd t d ti at_ ar ci ks)) : bJ (aj.aA (l.take (k+1)))=bJ (aj.aA (l.take k))++(ig at_++bJ (aj.aA ks)):=by
 rw [jq3,h,aj.kD];show bJ (_++aj.aA [_])=_;rw [aj.aA,aj.deep,aj.aA,jrx];unfold bJ ig;rw [List.filterMap_append,List.filterMap_cons];simp only [aj.id1];by_cases h:at_.id.data.toList=[]
 ·simp only [if_pos h,List.nil_append]
 ·simp only [if_neg h];rfl
theorem Ny (l:List aj) (k:Nat):(bJ (aj.aA (l.take k))).length<=(bJ (aj.aA l)).length:=by have h:l=l.take k++l.drop k:=(List.take_append_drop k l).symm;have:=congrArg (fun l=>(bJ (aj.aA l)).length) h;simp only [aj.kD] at this;unfold bJ at *;rw [List.filterMap_append,jp4] at this;omega
end
def Js (o q B:Nat) (L:List ByteArray) (l:List aj) (v:js3) (w:js1) (vi:js3) (wr:js1):Prop:=
 ∃ (k:Nat) (v':js3),k<=l.length/\vi=.int .i64 k/\GY o q B (L++bJ (aj.aA (l.take k))) v w wr v'
def Wo (o q B:Nat) (L:List ByteArray) (v:js3) (w:js1) (e:Ending) (w':js1):Prop:=e=.returned (.tuple #[])/\∃ v',GY o q B L v w w' v'
theorem Ec (o q B D:Nat) (hDB:D<=B) (hDo:D<=o) (n:Nat):∀ (l:List aj) (L:List ByteArray) (v vs:js3) (w:js1),aj.aX l<=n->Rd (·<D) w (fK l) [vs]->Nw o q B L v w->B<=w.heap.size->L.length+(bJ (aj.aA l)).length<=1000000 -> Calls Tryz.prog 187 #[vs,.pointer (some ⟨o,0,none⟩),.pointer (some ⟨q,0,none⟩)] w (Wo o q B (L++bJ (aj.aA l)) v w):=by
 induction n using Nat.strongRecOn with
 | _ n ih=>
  intro l L v vs w hn hrd hI hB hlen;obtain ⟨i0,hi0,hz0,hz1,hz2⟩:=info_parts ku;obtain ⟨a,cap,hv,hs⟩:=Rd.aC hrd;obtain rfl:vs=.slice a l.length cap:=by simpa using hv
  have hcap:l.length<=cap:=by simpa using hs.le
  have hmx:=hs.max;have HS:=Lib.hid hs;have IH:=Lib.hid ih;have R0:Hid (Js o q B L l v w (.int .i64 0) w):=⟨0,v,jpj _,rfl,by
   show GY o q B (L++bJ (aj.aA [])) v w w v;rw [aj.aA,show bJ ([]:List aj)=[] from rfl,jrx];exact GY.refl hI⟩
  have Wp:=Lib.hid (fun g (e:v.ownBlock=some g)=>(hI.own.lt g e).1);clear hs hv hrd ih hI;unfold maxLen at hmx;go_enter Tryz.func187,Tryz.ntmps187;go_wp2
  go_loopw [8] (fun vi wr=>Js o q B L l v w vi wr) (fun i _=>l.length-(intOf i).toNat)
  case atStart=>exact R0.out
  case round=>
   clear R0;obtain ⟨k,v1,hk,rfl,hK⟩:=hrel;have hst:∀ b,b<D->¬ (b=o\/v.ownBlock=some b):=fun b hb e=>by
    rcases e with e | e
    ·omega
    ·have:=Wp.out b e;omega
   by_cases hlt:k<l.length
   ·obtain ⟨x,hx⟩:∃ x,l[k]?=some x:=⟨_,joq hlt⟩;obtain ⟨kd,t,d,ti,at_,ar,ci,ks⟩:=x;have hsr:rU (·<D) wr 10 (l.map aj.d) a cap:=HS.out.below (hK.fr.below D (by omega) (fun b e=>Nat.le_of_not_lt fun h=>hst b h e));obtain ⟨g,off,vc,vp,va,vi,vk,rfl,hok,hbl,hc,hR⟩:=iL hsr hx;obtain ⟨c0,c1,c2,c3,c4,c5,c6,c7,c8,c9⟩:=hc;obtain ⟨ac,nc,cc,rfl⟩:=Rd.au hR.at_.cls
    obtain ⟨ap,np,cp,rfl⟩:=Rd.au hR.at_.aJ
    obtain ⟨aa,na,ca,rfl⟩:=Rd.au hR.args;obtain ⟨ai,ni,YD,rfl⟩:=Rd.au hR.ji;obtain ⟨ak,nk,ck,rfl⟩:=Rd.au hR.kids;have D8:=hR.kids;have hsz:=aj.bP l k _ hx;rw [aj.sz] at hsz;have HT:=Lib.hid (GZ l k kd t d ti at_ ar ci ks hx);have hle:=Ny l (k+1);rw [HT.out,jp4,jp4] at hle;obtain ⟨p,hp⟩:∃ p,p=wr.heap.size:=⟨_,rfl⟩;obtain ⟨w0,hw0⟩:∃ w0,w0=wr.alloc (.cells #[.int .i64 kd,.string t,.string d,.string ti,.string at_.id,.slice ac nc cc,.slice ap np cp,.slice aa na ca,.slice ai ni YD,.slice ak nk ck] 43):=⟨_,rfl⟩;have k0:CB 43 p [.int .i64 kd,.string t,.string d,.string ti,.string at_.id,.slice ac nc cc,.slice ap np cp,.slice aa na ca,.slice ai ni YD,.slice ak nk ck] w0:=by rw [hw0,hp];exact CB.new _ _ _
    have hK0:GY o q B (L++bJ (aj.aA (l.take k))) v w w0 v1:=by rw [hw0];exact hK.alloc _
    have b0:js2 D wr w0:=by rw [hw0];exact (jox _ _).alloc (by have:=hK.fr.size;omega) _
    have Zq:=D8.below b0;have hB0:B<=w0.heap.size:=by have:=hK0.fr.size;omega
    obtain ⟨acc,hacc⟩:∃ acc,acc=L++bJ (aj.aA (l.take k)):=⟨_,rfl⟩;have hal:acc.length+(ig at_).length+(bJ (aj.aA ks)).length<=1000000:=by rw [hacc,jp4];omega
    have Zr:Hid (L++bJ (aj.aA (l.take (k+1)))=acc++ig at_++bJ (aj.aA ks)):=by show _=_;rw [HT.out,hacc];simp [jq4]
    rw [<- hacc] at hK0;have IK:=Lib.hid (fun (L':List ByteArray) v' w' hr hi hb hl=>IH.out (aj.aX ks) (by omega) ks L' v' (.slice ak nk ck) w' (joz _) hr hi hb hl);have d0:=k0.cell 4 _ rfl;have d9:=k0.cell 9 _ rfl;have Wq:=Lib.hid hK0;have HKC:=Lib.hid k0;have HKD:=Lib.hid Zq;have Ws:=Lib.hid hal;have hpo:p≠o/\v1.ownBlock≠some p:=⟨by have:=hK.i.k2.lt;omega,fun e=>by have:=(hK.i.own.lt p e).2;omega⟩;have MS:=Lib.hid hpo;clear hx D8 hR hK b0 hsz hok hbl hsr hK0 k0 Zq hacc hal hle hpo HT IH hlen;go_upto_region 3 with (fail)
    rw [<- hw0,<- hp];clear hw0 hp c0 c1 c2 c3 c4 c5 c6 c7 c8 c9;by_cases hid:at_.id.data.toList=[]
    ·have qid:at_.id.toList.isEmpty=true:=by rw [Lib.toList_data,List.isEmpty_iff];exact hid
     have HI:Hid (ig at_=[]):=by show _=_;unfold ig;rw [if_pos hid]
     have I1:=Lib.hid (IK.out acc v1 w0 HKD.out Wq.out.i hB0 (by have:=Ws.out;omega));have fc:=Wq.out.i.k3.cell;unfold Gp at fc;clear hid IK;go_wp2_with fail
     (with_reducible refine I1.out.mono ?_)
     rintro e w4 ⟨rfl,v4,h4⟩;have HF:Hid (Js o q B L l v w (.int .i64 ((k+1:Nat):Int)) w4):=⟨k+1,v4,by omega,rfl,by
      rw [Zr.out,HI.out,jrx];exact Wq.out.trans h4⟩
     clear h4 I1 fc d0 d9;go_wp2;go_roundw;case rel=>exact HF.out
     case measure=>simp [intOf];omega
    ·have qid:at_.id.toList.isEmpty=false:=by
      cases h:at_.id.toList.isEmpty with
      | false=>rfl
      | true=>rw [Lib.toList_data,List.isEmpty_iff] at h;exact absurd h hid
     have HI:Hid (ig at_=[at_.id]):=by show _=_;unfold ig;rw [if_neg hid]
     obtain ⟨m,hm⟩:∃ m,m=acc.length:=⟨_,rfl⟩;have hm1:m<=1000000:=by have:=Ws.out;omega
     have OW:w0.ownsRow B 9 1 v1 m (acc.map Value.string):=by rw [hm];exact Wq.out.i.own
     obtain ⟨a1,c1,rfl⟩:=q01 OW;have gv:=Wq.out.i.k2.cell;have HOW:=Lib.hid OW;have HM:=Lib.hid hm;clear OW hm hid;go_wp2_with (at_builtin;refine wpList_append_own_at _ rfl _ _ 35 rfl B 9 i0 _ 1 16 Tryz.underlying35 hi0 hz0 hz1 hz2 rfl (by decide) _ _ _ rfl (HOW.out.alloc _) ⟨w0.heap.size,0,none⟩ 1 1 [.string at_.id] rfl rfl (lu w0 (.string at_.id) 9) (by intro u hu;simp at hu;subst hu;rfl) (by unfold maxLen;omega) (by omega) (by simp;omega) ?_)
     intro v2 w3 hown3 hg3 _ Rs;obtain ⟨a3,c3,rfl⟩:=q01 hown3;have PU:=Wq.out.i.push (val:=at_.id) hg3 (by rw [<- HM.out];exact hown3) (by rw [World.size_alloc];exact Rs);have bx:=PU.1;have bc:=bx.cell;have bf:=bx.free;have K4:=Wq.out.trans PU.2;have HK4:=Lib.hid K4;have kc:CB 43 p [.int .i64 kd,.string t,.string d,.string ti,.string at_.id,.slice ac nc cc,.slice ap np cp,.slice aa na ca,.slice ai ni YD,.slice ak nk ck] (w3.setCell ⟨o,0,none⟩ (.slice a3 (m+1) c3)):=HKC.out.fr PU.2.fr (fun e=>by
      rcases e with e | e
      ·exact MS.out.1 e
      ·exact MS.out.2 e)
     have kd4:=HKD.out.fr PU.2.fr (fun b hb e=>by
      rcases e with e | e
      ·have hb':b<D:=hb;omega
      ·have:=(HOW.out.lt b e).1;have hb':b<D:=hb;omega)
     have I1:=Lib.hid (IK.out (acc++[at_.id]) _ _ kd4 K4.i (by have:=K4.fr.size;omega) (by have h:=Ws.out;rw [HI.out] at h;simp at h;simp;omega));have f9:=kc.cell 9 _ rfl;have fc:=K4.i.k3.cell;unfold Gp at fc;clear hown3 hg3 Rs PU bx kc kd4 K4 d0 d9 gv IK HOW;go_upto_region 5 with (fail)
     obtain ⟨w5,vR⟩:∃ w5,w5=w3.setCell ⟨o,0,none⟩ (.slice a3 (m+1) c3):=⟨_,rfl⟩;rw [<- vR];rw [<- vR] at I1 f9 fc HK4;clear vR bc bf;go_wp2_with fail
     (with_reducible refine I1.out.mono ?_)
     rintro e w4 ⟨rfl,v4,h4⟩;have HF:Hid (Js o q B L l v w (.int .i64 ((k+1:Nat):Int)) w4):=⟨k+1,v4,by omega,rfl,by
      rw [Zr.out,HI.out];exact HK4.out.trans h4⟩
     clear h4 I1 fc f9;go_wp2;go_roundw;case rel=>exact HF.out
     case measure=>simp [intOf];omega
   ·have hkl:k=l.length:=by omega
    rw [hkl,jq5] at hK;have HK:=Lib.hid hK;clear hkl hK;go_wp2
    go_end0
    exact ⟨rfl,v1,HK.out⟩
def G5 (w:js1) (L:List ByteArray) (e:Ending) (w':js1):Prop:=∃ v,e=.returned v/\w'.ownsRow w.heap.size 9 1 v L.length (L.map Value.string)/\js2 w.heap.size w w'
theorem oN (kd lv:Int) (i t d ti:ByteArray) (at_:At) (li:List aj) (ks:List ah) (vc vp vl vk:js3) (w:js1) (hR:rQ (·<w.heap.size) w at_ li ks vc vp vl vk) (hlen:(bJ (aj.aA li)).length<=100000) : Calls Tryz.prog 142 #[.agg #[.int .i64 kd,.int .i64 lv,.string i,.string t,.string d,.string ti,.string at_.id,vc,vp,vl,vk]] w (G5 w (aW at_ li)):=by
 obtain ⟨i0,hi0,hz0,hz1,hz2⟩:=info_parts ku;obtain ⟨ac,nc,cc,rfl⟩:=Rd.au hR.at_.cls
 obtain ⟨ap,np,cp,rfl⟩:=Rd.au hR.at_.aJ
 obtain ⟨al,nl,cl,rfl⟩:=Rd.au hR.line;obtain ⟨ak,nk,ck,rfl⟩:=Rd.au hR.kids;obtain ⟨S,hS⟩:∃ S,S=w.heap.size:=⟨_,rfl⟩;have Ab:=hR.line;rw [<- hS] at Ab;obtain ⟨w0,hw0⟩:∃ w0,w0=w.alloc (.cells #[.int .i64 kd,.int .i64 lv,.string i,.string t,.string d,.string ti,.string at_.id,.slice ac nc cc,.slice ap np cp,.slice al nl cl,.slice ak nk ck] 40):=⟨_,rfl⟩;obtain ⟨w1,hw1⟩:∃ w1,w1=w0.alloc (.cells #[.slice none 0 0] 35):=⟨_,rfl⟩;have hz0':w0.heap.size=S+1:=by rw [hw0,hS];simp
 have k0:CB 40 S [.int .i64 kd,.int .i64 lv,.string i,.string t,.string d,.string ti,.string at_.id,.slice ac nc cc,.slice ap np cp,.slice al nl cl,.slice ak nk ck] w1:=by rw [hw1];refine CB.below ?_ ((jox _ _).alloc (joz _) _);rw [hw0,hS];exact CB.new _ _ _
 have b1:js2 S w w1:=by rw [hw1,hw0,hS];exact ((jox _ _).alloc (joz _) _).alloc (by simp) _
 have x1:aH (S+1) (.slice none 0 0) 35 w1:=by rw [hw1,<- hz0'];exact aH.new _ _ _
 have d6:=k0.cell 6 _ rfl;have d9:=k0.cell 9 _ rfl;have HS:=Lib.hid hS;have B1:=Lib.hid b1;have K0:=Lib.hid k0;have X1:=Lib.hid x1;have HL:=Lib.hid Ab;have HN:=Lib.hid hlen;have c1:=x1.cell;have f1:=x1.free
 -- what the calls of the closure say,whatever the row so far
 have qz:Hid (∀ (L:List ByteArray) (v:js3) (W:js1),L.length<=1->aW at_ li=L++bJ (aj.aA li)->js2 S w W->CB 40 S [.int .i64 kd,.int .i64 lv,.string i,.string t,.string d,.string ti,.string at_.id,.slice ac nc cc,.slice ap np cp,.slice al nl cl,.slice ak nk ck] W->aH (S+1) v 35 W->W.ownsRow S 9 1 v L.length (L.map Value.string)->S+1<W.heap.size ->
   Calls Tryz.prog 187 #[.slice al nl cl,.pointer (some ⟨S+1,0,none⟩),.pointer (some ⟨W.heap.size,0,none⟩)] (W.alloc (.cells #[Gp (S+1) W.heap.size] 122)) fun e w'=>e=.returned (.tuple #[])/\∃ v',aH (S+1) v' 35 w'/\w'.ownsRow S 9 1 v' (aW at_ li).length ((aW at_ li).map Value.string)/\js2 S w w'):=by
  intro L v W hL1 hE hb hk hx ho hlt;have hI:Nw (S+1) W.heap.size S L v (W.alloc (.cells #[Gp (S+1) W.heap.size] 122)):=⟨hx.alloc _,aH.new _ _ _,ho.alloc _⟩;have b2:js2 S w (W.alloc (.cells #[Gp (S+1) W.heap.size] 122)):=hb.alloc (by omega) _;refine (Ec (S+1) W.heap.size S S (joz _) (by omega) _ li L v (.slice al nl cl) _ (joz _) (HL.out.below b2) hI (by simp;omega) (by have:=HN.out;omega)).mono ?_;rintro e w' ⟨rfl,v',hK⟩;refine ⟨rfl,v',hK.i.k2,by rw [hE];exact hK.i.own,b2.trans (hK.fr.below S (by simp;omega) (fun b e=>?_))⟩;rcases e with e | e
  ·omega
  ·exact (hI.own.lt b e).1
 clear Ab b1 k0 x1 hR hlen;go_enter Tryz.func142,Tryz.ntmps142;go_upto_region 2 with (fail)
 rw [<- hw0,<- hS];try rw [hz0']
 rw [<- hw1];clear hw0 hw1 hS hz0';by_cases hid:at_.id.data.toList=[]
 ·have qid:at_.id.toList.isEmpty=true:=by rw [Lib.toList_data,List.isEmpty_iff];exact hid
  have hE:aW at_ li=[]++bJ (aj.aA li):=by unfold aW ig;rw [if_pos hid]
  have FC:=Lib.hid (qz.out [] (.slice none 0 0) w1 (by simp) hE B1.out K0.out X1.out (Nv _ _ _ _) X1.out.lt);clear hid hE;go_upto_region 6 with (fail)
  obtain ⟨Q,hQ⟩:∃ Q,Q=w1.heap.size:=⟨_,rfl⟩;obtain ⟨wF,hwF⟩:∃ wF,wF=w1.alloc (.cells #[Gp (S+1) Q] 122):=⟨_,rfl⟩;rw [<- hQ,<- hwF] at FC;have fc:wF.cell? ⟨Q,0,none⟩=some (Gp (S+1) Q):=by rw [hwF,hQ];exact (aH.new w1 (Gp (S+1) w1.heap.size) _).cell
  have e9:wF.cell? ⟨S,9,none⟩=some (.slice al nl cl):=by rw [hwF];exact (CB.below K0.out ((jox _ _).alloc (joz _) _)).cell 9 _ rfl
  unfold Gp at hwF fc;rw [<- hQ];rw [<- hwF];clear hQ hwF d6 d9 c1 f1;go_wp2_with fail
  (with_reducible refine FC.out.mono ?_)
  rintro e w4 ⟨rfl,v4,x4,o4,b4⟩;obtain ⟨a4,c4,rfl⟩:=q01 o4;have y4:=x4.cell;have HP:Hid (G5 w (aW at_ li) (.returned (.slice a4 (aW at_ li).length c4)) w4):=⟨_,rfl,by rw [<- HS.out];exact o4,by rw [<- HS.out];exact b4⟩;generalize aW at_ li=OA at *
  clear x4 o4 b4 FC e9 fc;go_wp2;go_ret;exact HP.out
 ·have qid:at_.id.toList.isEmpty=false:=by
   cases h:at_.id.toList.isEmpty with
   | false=>rfl
   | true=>rw [Lib.toList_data,List.isEmpty_iff] at h;exact absurd h hid
  have hE:aW at_ li=[at_.id]++bJ (aj.aA li):=by unfold aW ig;rw [if_neg hid]
  have HE:=Lib.hid hE;clear hid hE;go_wp2_with (at_builtin;refine wpList_append_own_at _ rfl _ _ 35 rfl S 9 i0 _ 1 16 Tryz.underlying35 hi0 hz0 hz1 hz2 rfl (by decide) _ _ _ rfl ((Nv w1 S 9 1).alloc _) ⟨w1.heap.size,0,none⟩ 1 1 [.string at_.id] rfl rfl (lu w1 (.string at_.id) 9) (by intro u hu;simp at hu;subst hu;rfl) (by unfold maxLen;omega) (by omega) (by have:=X1.out.lt;simp;omega) ?_)
  intro v2 w3 hown3 hg3 _ Rs;obtain ⟨a3,c3,rfl⟩:=q01 hown3;have hb3:js2 w1.heap.size w1 w3:=((jox _ w1).alloc (joz _) _).grown hg3 (by simp) (by simp [Value.ownBlock]);have k3:=K0.out.below hb3;have x3:=X1.out.below X1.out.lt hb3;have Zt:(Value.slice a3 (0+1) c3).ownBlock≠some (S+1):=oz (T':=35) (cs:=[.slice none 0 0]) hown3 x3 (by decide);have FC:=Lib.hid (qz.out [at_.id] (.slice a3 (0+1) c3) (w3.setCell ⟨S+1,0,none⟩ (.slice a3 (0+1) c3)) (by simp) HE.out ((B1.out.trans (hb3.mono (by have:=X1.out.lt;omega))).setCell (by show S<=S+1;omega) _)
   (k3.fr (aM.set w3 (S+1) 0 _) (by omega)) (x3.set _) (dh hown3 (aM.set w3 (S+1) 0 _) (fun b e e'=>Zt (e' ▸ e))) (by have:=x3.lt;simp [World.setCell];omega))
  have xc:=x3.cell;have xf:=x3.free;have K3:=Lib.hid (k3.fr (aM.set w3 (S+1) 0 (.slice a3 (0+1) c3)) (by omega));clear hown3 hg3 Rs hb3 k3 x3 Zt;go_upto_region 4 with (fail)
  obtain ⟨wG,hwG⟩:∃ wG,wG=w3.setCell ⟨S+1,0,none⟩ (.slice a3 (0+1) c3):=⟨_,rfl⟩;rw [<- hwG] at FC K3;try rw [<- hwG]
  clear hwG xc xf;go_upto_region 6 with (fail)
  obtain ⟨Q,hQ⟩:∃ Q,Q=wG.heap.size:=⟨_,rfl⟩;obtain ⟨wF,hwF⟩:∃ wF,wF=wG.alloc (.cells #[Gp (S+1) Q] 122):=⟨_,rfl⟩;rw [<- hQ,<- hwF] at FC;have fc:wF.cell? ⟨Q,0,none⟩=some (Gp (S+1) Q):=by rw [hwF,hQ];exact (aH.new wG (Gp (S+1) wG.heap.size) _).cell
  have e9:wF.cell? ⟨S,9,none⟩=some (.slice al nl cl):=by rw [hwF];exact (CB.below K3.out ((jox _ _).alloc (joz _) _)).cell 9 _ rfl
  unfold Gp at hwF fc;rw [<- hQ];rw [<- hwF];clear hQ hwF d6 d9 c1 f1;go_wp2_with fail
  (with_reducible refine FC.out.mono ?_)
  rintro e w4 ⟨rfl,v4,x4,o4,b4⟩;obtain ⟨a4,c4,rfl⟩:=q01 o4;have y4:=x4.cell;have HP:Hid (G5 w (aW at_ li) (.returned (.slice a4 (aW at_ li).length c4)) w4):=⟨_,rfl,by rw [<- HS.out];exact o4,by rw [<- HS.out];exact b4⟩;generalize aW at_ li=OA at *
  clear x4 o4 b4 FC e9 fc;go_wp2;go_ret;exact HP.out
open Go.RowKit
def Nz (w:js1) (e:Ending) (w':js1):Prop:=e=.returned (.tuple #[.slice none 0 0,.int .i64 3])/\js2 w.heap.size w w'
def Zu (w1 wr:js1) (l:List ByteArray) (vi:js3):Prop:=
 ∃ k:Nat,k<=l.length/\vi=.int .i64 k/\wr.ownsRow w1.heap.size 3 1 (.slice (some ⟨w1.heap.size,0,none⟩) l.length l.length) l.length (fQ (BO l k) l.length)/\js2 w1.heap.size w1 wr/\∀ j x,j<k->l[j]?=some x->dA x<=1048576
theorem KS (w:js1) (s:ByteArray) (wd:Int) (hs:s.size<=100000) (he:jL s≠0) (hd0:1<=wd) (hd1:wd<=1048576) (ht:TabAt w) : Calls Tryz.prog 181 #[.string s,.int .i64 wd] w (Nz w):=by
 obtain ⟨iI,QU,yX,yY,yZ⟩:=info_parts Jo;have hwl:(fJ s).length<=200000:=by have h:=qA s s.size 0 0 [];unfold fJ Ed;split<;>simp at h ⊢<;>omega
 have QS:=Lib.hid (oO s);have W0:=Lib.hid (Ac s w (by omega));have HT:=Lib.hid ht;have hbad:4096<(fJ s).length\/∃ x∈fJ s,1048576<dA x:=by unfold jL at he;exact Decidable.byContradiction fun h=>he (if_neg h)
 have HBAD:=Lib.hid hbad;clear ht hbad he;have hpost:Nz w=fun e w'=>e=.returned (.tuple #[.slice none 0 0,.int .i64 3])/\js2 w.heap.size w w':=rfl
 rw [hpost];clear hpost;generalize fJ s=l at *;go_enter Tryz.func181,Tryz.ntmps181;go_wp2_with fail
 refine W0.out.mono ?_;rintro e w1 ⟨v,rfl,hown,hb1⟩;have hse:=gQ.bV hown;clear hown W0;obtain ⟨-,a,cap,rfl,p1,p2,p3⟩:=hse;unfold maxLen at p2;by_cases h4:4096<l.length
 ·have e1:decide ((4096:Int)<(l.length:Int))=true:=by simp;omega
  have HB1:=Lib.hid hb1;clear p3 HBAD h4 hb1;go_wp2
  go_ret2
  exact ⟨rfl,HB1.out⟩
 have e1:decide ((4096:Int)<(l.length:Int))=false:=by simp;omega
 have HT1:=Lib.hid (HT.out.below hb1);clear HT;have hpos:0<l.length:=by
  rcases HBAD.out with h | ⟨x,hx,-⟩
  ·omega
  ·exact List.length_pos_of_mem hx
 rcases p3 with p3 | ⟨b,off,rfl,p3⟩
 ·omega
 have hcells:∀ (j:Nat) y,l[j]?=some y->w1.cell? ⟨b,off+j,none⟩=some (.string y):=fun j y hy=>p3 j _ (by simp [hy])
 have hbl:b<w1.heap.size:=jY (hcells 0 _ (joq hpos));have HC:=Lib.hid hcells;clear p3 hcells;go_wp2_with (at_make;refine wpList_make_full _ rfl _ _ 110 rfl w1.heap.size 3 iI _ 1 Tryz.underlying110 QU yX yY .i64 .i64 _ _ l.length rfl rfl rfl rfl ?m3 ?m4 ?m5 ?_)
 case m3=>rw [yZ];omega
 case m4=>unfold maxLen;omega
 case m5=>exact joz _
 intro w2 hown2 qx;have hb2:js2 w1.heap.size w1 w2:=(jox _ _).grown qx (joz _) (by simp);have Ee:(madeCells #[Value.int .i64 0] l.length).toList=fQ (BO l 0) l.length:=by have e:=Ux l.length;rw [show (Value.int .i64 0).cells=#[Value.int .i64 0] from rfl,Nat.mul_one] at e;rw [e];rfl
 rw [Ee] at hown2;have NA:=Lib.hid hown2;clear hown2 qx Ee;go_wp2
 go_loopw [33] (fun vi wr=>Zu w1 wr l vi) (fun i _=>l.length-(intOf i).toNat)
 case atStart=>exact ⟨0,jpj _,rfl,NA.out,hb2,fun j x h=>absurd h (Nat.not_lt_zero _)⟩
 case round=>
  obtain ⟨k,hk,rfl,hown3,je,hall⟩:=hrel;have Wt:=Lib.hid hown3;have mM:=Lib.hid hall;clear hown3 hall;by_cases hlt:k<l.length
  ·obtain ⟨x,hx⟩:∃ x,l[k]?=some x:=⟨_,joq hlt⟩;have c0:wr.cell? ⟨b,off+k,none⟩=some (.string x):=by rw [je.cell (p:=⟨b,off+k,none⟩) hbl];exact HC.out k x hx
   have hxs:=QS.out x (jpk hx);have hwx:=vK x;have hst:=Ef l k x hx;have HST:=Lib.hid hst;have WX:=Lib.hid (jc x wr (by omega) (HT1.out.below je));have NC:Hid (dA x<=1048576->∀ j z,j<k+1->l[j]?=some z->dA z<=1048576):=fun h j z hj hz=>by
    rcases Nat.lt_or_ge j k with h1 | h1
    ·exact mM.out j z h1 hz
    ·have:j=k:=by omega
     subst this;rw [hx] at hz;rw [<- jp7 hz];exact h
   generalize dA x=y at *;clear hx hst;go_wp2_with fail
   refine WX.out.mono ?_;rintro e w4 ⟨rfl,hb4⟩;have iH:=zY Wt.out hb4;have fz:=iH.frozenAt k;have fc:=iH.cellAt k (by omega);rw [jg _ _ _ hlt] at fc;have GX:=Lib.hid iH;have Jt:js2 w1.heap.size w1 w4:=aP je hb4;have jgx:=Lib.hid (aP hb1 Jt);by_cases hy:1048576<y
   ·have e5:decide ((1048576:Int)<(y:Int))=true:=by simp;omega
    clear iH WX hy;go_wp2
    go_ret2
    exact ⟨rfl,jgx.out.setCell hb1.size _⟩
   ·have e5:decide ((1048576:Int)<(y:Int))=false:=by simp;omega
    have jgz:=Lib.hid (NC.out (by omega));clear iH WX hy;go_wp2;go_roundw;case rel=>
     obtain ⟨h1,h2⟩:=GX.out.stored k (.int .i64 y);rw [vG _ _ _ hlt,HST.out] at h1;exact ⟨k+1,by omega,by go_num,h1,Jt.setCell (joz _) _,jgz.out⟩
    case measure=>simp [intOf];omega
  ·exfalso;rcases HBAD.out with h | ⟨x,hx,h⟩
   ·omega
   ·obtain ⟨j,hj⟩:=List.mem_iff_getElem?.1 hx;have:=mM.out j x (by have:=(List.getElem?_eq_some_iff.1 hj).1;omega) hj;omega
open Go.RowKit
theorem tT:∀ (l:List ByteArray),lC l≠0->∃ x∈l,jL x≠0
 | [],h=>absurd rfl h
 | y::l,h=>by
  rw [lC] at h;by_cases e:jL y≠0
  ·exact ⟨y,jr1 ..,e⟩
  ·rw [if_neg e] at h;obtain ⟨x,hx,h2⟩:=tT l h;exact ⟨x,List.mem_cons_of_mem _ hx,h2⟩
theorem Ad:∀ (l:List ByteArray),lC l≠0->lC l=3
 | [],h=>absurd rfl h
 | y::l,h=>by
  rw [lC] at h ⊢;by_cases e:jL y≠0
  ·rw [if_pos e];unfold jL at e ⊢;split
   ·rfl
   ·rename_i h2;exact absurd (if_neg h2) e
  ·rw [if_neg e] at h ⊢;exact Ad l h
def G6 (w:js1) (wd:Int) (ps:List ByteArray) (v vi:js3) (wr:js1):Prop:=
 ∃ k:Nat,k<=ps.length/\vi=.int .i64 k/\wr.ownsRow w.heap.size 9 1 v (qj wd (ps.take k)).length ((qj wd (ps.take k)).map Value.string)/\js2 w.heap.size w wr/\∀ j x,j<k->ps[j]?=some x->jL x=0
theorem KT (li:List aj) (vl:js3) (wd:Int) (w:js1) (h:Rd (·<w.heap.size) w (fK li) [vl]) (hlen:(aj.ay li).length<=100000) (he:fU li≠0) (hl:(qj wd (fT (fq li))).length<=1000000) (hd0:1<=wd) (hd1:wd<=1048576) (ht:TabAt w) (hml:oh w) : Calls Tryz.prog 132 #[vl,.int .i64 wd] w (Nz w):=by
 obtain ⟨i0,hi0,hz0,hz1,hz2⟩:=info_parts ku;have SC:=Lib.hid (rX li vl w h (by omega));have hsz:(fq li).size<=100000:=by show (aj.ay li).toArray.size<=_;rw [List.size_toArray];exact hlen
 have Rq:=Lib.hid (tT _ he);have HPS:=Lib.hid (fZ (fq li));have BJ:=Lib.hid (fA (fq li));have jgk:=jM (fq li);have MR:Hid (∀ W,oh W->Calls Tryz.prog 135 #[.string (fq li),.string ⟨#[10]⟩] W fun e w'=>e=.returned (.slice (some ⟨W.heap.size,0,none⟩) (fT (fq li)).length (fT (fq li)).length)/\w'=W.alloc (.cells ((fT (fq li)).map Value.string).toArray 9)):=fun W hW=>by
  obtain ⟨m,hm⟩:=hW;have h:=Tryz.strings_Split (fq li) Dz m W (by omega) hm (by decide);rw [fA];exact h
 have HT:=Lib.hid ht;have HML:=Lib.hid hml;have HL:=Lib.hid hl;generalize fT (fq li)=ps at *;clear h hlen he ht hml hl;generalize fq li=s at *;go_enter Tryz.func132,Tryz.ntmps132;go_wp2_with fail
 (with_reducible refine SC.out.mono ?_)
 rintro e w1 ⟨rfl,b1⟩;have SP:=Lib.hid (MR.out w1 (HML.out.below b1));have B1:=Lib.hid b1;clear SC MR b1;go_wp2_with fail
 (with_reducible refine SP.out.mono ?_)
 rintro e w2 ⟨rfl,hw2⟩;obtain ⟨g,hg⟩:∃ g,g=w1.heap.size:=⟨_,rfl⟩;obtain ⟨n,hn⟩:∃ n,n=ps.length:=⟨_,rfl⟩;have hk2:CB 9 g (ps.map Value.string) w2:=by rw [hw2,hg];exact CB.new _ _ _
 have hb2:js2 w.heap.size w w2:=by rw [hw2];exact B1.out.alloc B1.out.size _
 have hn1:n<=100001:=by omega
 rw [<- hg,<- hn];have HK:=Lib.hid hk2;have HB2:=Lib.hid hb2;have HN:=Lib.hid hn;have R0:Hid (G6 w2 wd ps (.slice none 0 0) (.int .i64 0) w2):=⟨0,jpj _,rfl,by simpa [qj] using Nv _ _ _ _,jox _ _,fun j x h=>absurd h (Nat.not_lt_zero _)⟩;clear hw2 hg hn hk2 hb2 SP;go_wp2
 go_loopw [6,15] (fun v vi wr=>G6 w2 wd ps v vi wr) (fun _ vi _=>n-(intOf vi).toNat)
 case atStart=>exact R0.out
 case round=>
  clear R0;obtain ⟨k,hk,rfl,hown,hbel,hall⟩:=hrel;have mM:=Lib.hid hall;clear hall;by_cases hlt:k<n
  ·obtain ⟨x,hx⟩:∃ x,ps[k]?=some x:=⟨_,joq (by have:=HN.out;omega)⟩;have hxs:=HPS.out x (jpk hx);have c0:wr.cell? ⟨g,k,none⟩=some (.string x):=(HK.out.below hbel).cell k _ (by rw [List.getElem?_map,hx];rfl);have hbw:js2 w.heap.size w wr:=aP HB2.out hbel;by_cases hxe:jL x=0;case neg=>
    have LC:=Lib.hid (KS wr x wd (by omega) hxe hd0 hd1 (HT.out.below hbw));have zZ:=Lib.hid hbw;obtain ⟨m,hm⟩:∃ m,m=(qj wd (ps.take k)).length:=⟨_,rfl⟩;rw [<- hm] at hown;obtain ⟨av,cv,rfl⟩:=q01 hown;clear hx hxs hbw hown hbel hxe hm;go_wp2_with fail
    (with_reducible refine LC.out.mono ?_)
    rintro e w4 ⟨rfl,b4⟩;have HF:=Lib.hid (aP zZ.out b4);clear b4 LC;go_wp2
    go_ret2
    exact ⟨rfl,HF.out⟩
   have Wm:=oM hxe;have jh0:Hid (∀ j y,j<k+1->ps[j]?=some y->jL y=0):=fun j y hj hy=>by
    rcases Nat.lt_or_ge j k with h1 | h1
    ·exact mM.out j y h1 hy
    ·have:j=k:=by omega
     subst this;rw [hx] at hy;rw [<- jp7 hy];exact hxe
   have LC:=Lib.hid (zX wr x wd (by omega) Wm.1 Wm.2 hd0 hd1 (HT.out.below hbw));have hsn:=tQ wd ps k x hx;have hle:=zW wd ps (k+1);rw [hsn,jp4] at hle;have hl:=HL.out;obtain ⟨m,hm⟩:∃ m,m=(qj wd (ps.take k)).length:=⟨_,rfl⟩;have hm1:m+(og x wd).length<=1000000:=by omega
   rw [<- hm] at hown;obtain ⟨av,cv,rfl⟩:=q01 hown;have HOW:=Lib.hid hown;have HM:=Lib.hid hm;have rZ:=Lib.hid hsn;have Jr:=Lib.hid hbel;clear hx hxs Wm hbw hsn hle hl hm hown hbel hxe;go_wp2_with fail
   (with_reducible refine LC.out.mono ?_)
   rintro e w4 ⟨v4,rfl,h4,b4⟩;have h4:w4.ownsRow wr.heap.size 9 1 v4 (og x wd).length ((og x wd).map Value.string):=h4;obtain ⟨a4,c4,rfl,Wn⟩:=(gQ.bV h4).reads;obtain ⟨m4,BK⟩:∃ m4,m4=(og x wd).length:=⟨_,rfl⟩;rw [<- BK] at Wn hm1 ⊢;have HR4:=Lib.hid Wn;have HM4:=Lib.hid BK;have GX:=Lib.hid (zY HOW.out b4);have yK:=Lib.hid (aP Jr.out b4);clear h4 Wn BK b4 LC c0;go_wp2_with (at_builtin;refine Dy _ rfl _ _ 35 rfl w2.heap.size 9 i0 _ 1 16 Tryz.underlying35 hi0 hz0 hz1 hz2 rfl (by decide) _ _ _ rfl GX.out w4.heap.size _ _ _ _ rfl HR4.out ?x1 ?x2 ?x3 ?x4 ?_)
   case x1=>
    intro u hu;obtain ⟨s,_,rfl⟩:=List.mem_map.1 hu;rfl
   case x2=>unfold maxLen;omega
   case x3=>omega
   case x4=>exact yK.out.size
   intro v5 w5 h5 hg5 Ea;have b5:js2 w2.heap.size w2 w5:=yK.out.grown hg5 yK.out.size (fun b e=>(GX.out.lt b e).1);have HF:Hid (G6 w2 wd ps v5 (.int .i64 ((k+1:Nat):Int)) w5):=⟨k+1,by have:=HN.out;omega,rfl,by rw [rZ.out,jp4,List.map_append,<- HM.out,<- HM4.out];exact h5,b5,jh0.out⟩;clear h5 hg5 Ea b5;go_wp2;go_roundw;case rel=>exact HF.out
   case measure=>simp [intOf];omega
  ·exfalso;obtain ⟨x,hx,hxe⟩:=Rq.out;obtain ⟨j,hj⟩:=List.mem_iff_getElem?.1 hx;exact hxe (mM.out j x (by have:=(List.getElem?_eq_some_iff.1 hj).1;have:=HN.out;omega) hj)
def vL (l:List UInt8):Prop:=dW (BP l)=true
theorem BS (a b:List UInt8):BP (a++b)=BP a++BP b:=by apply ByteArray.ext;apply Array.toList_inj.1;rw [ByteArray.data_append];simp [BP]
theorem lW (s:ByteArray):vL s.data.toList↔dW s=true:=by unfold vL;rw [Rt]
theorem sj:vL []:=by unfold vL;decide +kernel
theorem mO {a b:List UInt8} (ha:vL a) (hb:vL b):vL (a++b):=by unfold vL at *;rw [BS];exact ND _ _ ha hb
theorem G7 {a:List UInt8} {c:UInt8} {m:List UInt8} (hc:c.toNat<128) (h:vL (a++c::m)):vL a/\vL (c::m):=by unfold vL at *;rw [BS] at h;exact KU _ _ ⟨c,m,by rw [Ju],hc⟩ h
theorem Ru {c:UInt8} {m:List UInt8} (hc:c.toNat<128) (h:vL (c::m)):vL m:=by
 have e:(c::m)=[c]++m:=rfl;unfold vL at *;rw [e,BS] at h;have h2:=qB (BP [c]) (BP m) (BP m).size 0;have hs:(BP [c]).size=1:=rfl;have hc0:(BP [c])[0]'(by rw [hs];decide)=c:=rfl;unfold dW pts at h ⊢;rw [ByteArray.size_append,hs,Nat.add_comm 1,bZ,if_pos (by rw [ByteArray.size_append,hs];omega),List.all_cons,Bool.and_eq_true] at h;have hw:(Utf8.decode (BP [c]++BP m) 0).2=1:=by
  have hg:(BP [c]++BP m)[0]'(by rw [ByteArray.size_append,hs];omega)=c:=by rw [ByteArray.getElem_append_left (by rw [hs];decide)];exact hc0
  rw [decode_ascii _ 0 (by rw [ByteArray.size_append,hs];omega) (by rw [hg];exact hc)]
 rw [hw] at h;rw [hs,Nat.add_zero] at h2;rw [<- h2];exact h.2
theorem oP (l:List UInt8) (h:∀ c∈l,32<=c.toNat/\c.toNat<127):vL l:=nP (by unfold NG;rw [Ju];exact h)
theorem UA:vL [10]:=by unfold vL;decide +kernel
theorem Ae {a:List UInt8} {c:UInt8} {m:List UInt8} (hc:c.toNat<128) (h:vL (a++c::m)):vL a/\vL m:=⟨(G7 hc h).1,Ru hc (G7 hc h).2⟩
theorem iN:∀ (l cur:List UInt8),vL (cur++l)->∀ x∈Gq l cur,vL x
 | [],cur,h,x,hx=>by
  rw [Gq] at hx;split at hx
  ·cases hx
  ·rw [List.mem_singleton] at hx;subst hx
   rwa [jrx] at h
 | c::t,cur,h,x,hx=>by
  rw [Gq] at hx;split at hx
  ·rename_i hc
   have hc2:c.toNat<128:=by unfold UD at hc;simp at hc;omega
   obtain ⟨h1,h2⟩:=Ae hc2 h;split at hx
   ·exact iN t [] h2 x hx
   ·rcases List.mem_cons.1 hx with rfl | hx
    ·exact h1
    ·exact iN t [] h2 x hx
  ·exact iN t (cur++[c]) (by rw [jq4];exact h) x hx
theorem Eh (s:ByteArray) (h:dW s=true):∀ x∈fJ s,dW x=true:=by intro x hx;rw [<- lW];refine iN s.data.toList [] ((lW s).2 h) _ ?_;rw [<- tV];exact List.mem_map_of_mem hx
theorem G8 (k:Nat):∀ (s:ByteArray),dW s=true->∀ x∈Lib.splitB Dz 0 k s,dW x=true:=by
 induction k with
 | zero=>
  intro s h x hx;rw [Lib.splitB_zero,List.mem_singleton] at hx;subst hx;exact h
 | succ k ih=>
  intro s h x hx;by_cases e:Lib.indexB s Dz=-1
  ·rw [Lib.splitB_miss _ _ _ _ e,List.mem_singleton] at hx;subst hx;exact h
  ·have hi:Lib.indexB s Dz=Lib.indexByte s.data.toList 10:=by
    show Lib.index s.data.toList [10]=_;rw [Lib.index_one]
   have hge:=Lib.indexByte_ge s.data.toList 10;obtain ⟨i,hi2⟩:∃ i:Nat,Lib.indexB s Dz=i:=⟨(Lib.indexB s Dz).toNat,by omega⟩;rw [Lib.splitB_hit _ _ _ _ i hi2] at hx;have hsome:=(Lib.indexByte_some (by rw [<- hi];exact hi2)).1;have hlt:i<s.data.toList.length:=(List.getElem?_eq_some_iff.1 hsome).1;have hdec:s.data.toList=s.data.toList.take i++10::s.data.toList.drop (i+1):=by
    have h1:=(List.take_append_drop i s.data.toList).symm;have h2:s.data.toList.drop i=10::s.data.toList.drop (i+1):=by rw [List.drop_eq_getElem_cons hlt,(List.getElem?_eq_some_iff.1 hsome).2]
    rw [h2] at h1;exact h1
   have hv:=(lW s).2 h;rw [hdec] at hv;obtain ⟨v1,v2⟩:=Ae (by decide) hv;rcases List.mem_cons.1 hx with rfl | hx
   ·rw [<- lW,Nat.add_zero,Lib.extract_from_zero];exact v1
   ·refine ih _ ?_ x hx;rw [<- lW];have e2:(s.extract (i+Dz.size) s.size).data.toList=s.data.toList.drop (i+1):=by
     show (s.extract (i+1) s.size).data.toList=_;rw [ByteArray.data_extract];simp;exact List.take_of_length_le (by rw [List.length_drop,qC];omega)
    rw [e2];exact v2
theorem vS (s:ByteArray) (h:dW s=true):∀ x∈fT s,dW x=true:=G8 _ s h
theorem vT (g:Nat->Nat):∀ (l:List ByteArray) (i:Nat),(∀ x∈l,dW x=true)->vL (mP g i l)
 | [],_,_=>sj
 | x::t,i,h=>by
  rw [mP];refine mO (mO ?_ ((lW x).2 (h x (jr1 ..)))) (vT g t _ (fun y hy=>h y (List.mem_cons_of_mem _ hy)));split
  ·exact sj
  ·exact oP _ (fun c hc=>by rw [List.eq_of_mem_replicate hc];decide)
theorem G9 (s:ByteArray) (wd:Int) (h:dW s=true):∀ x∈og s wd,dW x=true:=by intro x hx;unfold og BH at hx;obtain ⟨j,-,rfl⟩:=List.mem_map.1 hx;unfold lF jB;exact vT _ _ 0 (fun y hy=>Eh s h y (List.mem_of_mem_take (List.mem_of_mem_drop hy)))
mutual
theorem aj.Ei:∀ (x:aj),x.src->vL x.shown
 | .mk k t d ti a ar ci ks,h=>by
  rw [aj.src] at h;obtain ⟨h1,h2⟩:=h;have hK:=aj.iO ks h2;have hf:zh k t d ti a ar ci ks=true:=by
   cases hf:zh k t d ti a ar ci ks
   ·unfold su at h1;rw [if_pos hf] at h1;cases h1
   ·rfl
  have hk:=He hf;unfold su at h1;rw [if_neg (by rw [hf];simp)] at h1;rw [aj.shown];by_cases c1:k=1\/k=4\/k=5
  ·rw [if_pos c1] at h1 ⊢;split at h1
   ·cases h1
   ·rename_i h3
    rw [lW];cases h4:iA t
    ·exact absurd (.inr h4) h3
    ·exact oQ h4
  rw [if_neg c1];by_cases c2:k=2
  ·rw [if_pos c2];exact oP _ (by decide)
  rw [if_neg c2];by_cases c3:k=3
  ·rw [if_pos c3];exact UA
  rw [if_neg c3];rw [if_neg c1,if_neg c2,if_neg c3] at h1;by_cases c16:k=16
  ·rw [if_pos c16];subst c16;rw [lW];cases h4:iA d
   ·exfalso;revert h1;have h5:qD d=false:=by unfold qD;rw [h4];simp
    simp [h5]
   ·exact oQ h4
  rw [if_neg c16];by_cases c12:k=12
  ·rw [if_pos c12];subst c12;have h5:fO t=true:=by
    cases h4:fO t
    ·exfalso;revert h1;simp [jk,h4]
    ·rfl
   have h6:=(lW t).2 (nP (Af t h5));exact mO (oP [91] (by decide)) (mO h6 (oP [93] (by decide)))
  rw [if_neg c12];split
  ·exact hK
  ·exact sj
theorem aj.iO:∀ (l:List aj),aj.vU l->vL (aj.ay l)
 | [],_=>sj
 | x::l,h=>by
  rw [aj.vU] at h;rw [aj.ay];exact mO (aj.Ei x h.1) (aj.iO l h.2)
end
theorem BU (li:List aj) (wd:Int) (h:aj.vU li):∀ x∈dB li wd,dW x=true:=by
 intro x hx;unfold dB mI at hx;split at hx
 ·rw [List.mem_singleton] at hx;subst hx;exact gq
 ·unfold qj at hx;obtain ⟨s,hs,hx⟩:=List.mem_flatMap.1 hx;have h1:dW (fq li)=true:=by
   have:=aj.iO li h;unfold vL BP at this;exact this
  exact G9 s wd (vS _ h1 s hs) x hx
theorem NH {s:ByteArray} (h:gU s=true):dW s=true:=by
 unfold gU at h;rw [Bool.or_eq_true,Bool.and_eq_true] at h;rcases h with h | h
 ·have e:s=⟨#[]⟩:=by
   apply ByteArray.ext;apply Array.toList_inj.1;exact of_decide_eq_true h
  rw [e];exact gq
 ·exact h.1
theorem Hf (t:ByteArray) (h:gU t=true):dW (gT t)=true:=by
 have hv:=(lW t).2 (NH h);unfold gT;show vL (Lib.trimSuffix t.data.toList [10]);unfold Lib.trimSuffix;split
 ·rename_i hs
  obtain ⟨u,hu⟩:=List.isSuffixOf_iff_suffix.1 hs;rw [<- hu] at hv ⊢;have:=(G7 (by decide) hv).1;simpa using this
 ·exact hv
theorem tX (l:List ByteArray) (sep:List UInt8) (hs:vL sep) (h:∀ x∈l,dW x=true):dW (lV l sep)=true:=by
 show vL (Lib.join (l.map (·.data.toList)) sep);have tl:∀ (r:List ByteArray),(∀ x∈r,dW x=true)->vL (Lib.joinTail sep (r.map (·.data.toList))):=by
  intro r;induction r with
  | nil=>intro _;exact sj
  | cons x r ih=>
   intro h;unfold Lib.joinTail;rw [List.map_cons,List.map_cons,List.flatten_cons];exact mO (mO hs ((lW x).2 (h x (jr1 ..)))) (ih (fun y hy=>h y (List.mem_cons_of_mem _ hy)))
 cases l with
 | nil=>exact sj
 | cons x l=>
  rw [List.map_cons,Lib.join_cons];exact mO ((lW x).2 (h x (jr1 ..))) (tl l (fun y hy=>h y (List.mem_cons_of_mem _ hy)))
open Go.RowKit
def oC (seen:List ByteArray) (g:Int) (x:Bx):Nat:=if x.ht<1\/1048576<x.ht then 9 else if dW x.text=false then 17 else if x.gr<g then 5 else uS seen x.an
def jl (seen:List ByteArray) (g:Int):List Bx->Nat
 | []=>0
 | x::l=>if oC seen g x≠0 then oC seen g x else jl (seen++x.an) x.gr l
def jm (l:List Bx):Nat:=if 4096<l.length then 3 else jl [] 0 l
def l7 (l:List Bx) (k:Nat):List ByteArray:=((l.take k).map Bx.an).flatten
structure Bx.fine (x:Bx):Prop where
 t:x.text.size<=1000000
 n:x.an.length<=1000
 a:∀ s∈x.an,s.size<=1000000
structure Bx.Rv (x:Bx):Prop where
 t:x.text.size<=10000000000000
 n:x.an.length<=1000
 a:∀ s∈x.an,s.size<=1000000
theorem Bx.fine.to2 {x:Bx} (h:x.fine):x.Rv:=⟨by have:=h.t;omega,h.n,h.a⟩
theorem lG {l:List Bx} {k:Nat} {x:Bx} (h:l[k]?=some x):l7 l (k+1)=l7 l k++x.an:=by unfold l7;rw [jq3,h];simp
theorem Ag (l:List Bx) (h:∀ x∈l,x.Rv):∀ k,(l7 l k).length<=1000*k
 | 0=>by simp [l7]
 | k+1=>by
  have ih:=Ag l h k;cases hx:l[k]? with
  | none=>unfold l7 at ih ⊢;rw [jq3,hx];simp at ih ⊢;omega
  | some x=>
   rw [lG hx,jp4];have:=(h x (jpk hx)).n;omega
theorem mQ {ok:Nat->Prop} {w:js1} {l:List Bx} {a:Option Addr} {cap:Nat} (h:rU ok w 6 (l.map Bx.d) a cap) {k:Nat} {t:ByteArray} {ht gr:Int} {kp fl:Bool} {an:List ByteArray} (hk:l[k]?=some ⟨t,ht,gr,kp,fl,an⟩) : ∃ b off va,a=some ⟨b,off,none⟩/\ok b/\b<w.heap.size/\(w.cell? ⟨b,off+k*6,none⟩=some (.string t)/\w.cell? ⟨b,off+k*6+1,none⟩=some (.int .i64 ht)/\w.cell? ⟨b,off+k*6+2,none⟩=some (.int .i64 gr)/\w.cell? ⟨b,off+k*6+3,none⟩=some (.bool kp)/\w.cell? ⟨b,off+k*6+4,none⟩=some (.bool fl)/\w.cell? ⟨b,off+k*6+5,none⟩=some va)/\Rd ok w (dZ an) [va]:=by
 have hlt:k<l.length:=(List.getElem?_eq_some_iff.1 hk).1;obtain ⟨b,off,ha,hok,hb,hc⟩:=h.at_ (by simpa using Nat.lt_of_le_of_lt (jpj _) hlt)
 obtain ⟨r,hr,hl,hcell⟩:=hc k _ (by rw [List.getElem?_map,hk];rfl);obtain ⟨va,rfl,hv⟩:=Bx.open_ hr;refine ⟨b,off,va,ha,hok,hb,⟨hcell 0 _ rfl,?_,?_,?_,?_,?_⟩,hv⟩
 ·rw [Nat.add_assoc];exact hcell 1 _ rfl
 ·rw [Nat.add_assoc];exact hcell 2 _ rfl
 ·rw [Nat.add_assoc];exact hcell 3 _ rfl
 ·rw [Nat.add_assoc];exact hcell 4 _ rfl
 ·rw [Nat.add_assoc];exact hcell 5 _ rfl
def UF (w:js1) (mb:Nat) (l:List Bx) (V:Nat) (vg vi:js3) (wr:js1):Prop:=
 ∃ (k:Nat) (g:Int),k<=l.length/\vi=.int .i64 k/\vg=.int .i64 g/\bT wr mb (l7 l k).length (l7 l k).reverse/\js2 w.heap.size w wr/\jl (l7 l k) g (l.drop k)=V
def UG (w:js1) (mb:Nat) (seen cls:List ByteArray) (E:Nat) (vi:js3) (wr:js1):Prop:=
 ∃ j:Nat,j<=cls.length/\vi=.int .i64 j/\bT wr mb (seen.length+j) (seen++cls.take j).reverse/\js2 w.heap.size w wr/\uS (seen++cls.take j) (cls.drop j)=E
theorem mR (l:List Bx) (v:js3) (w:js1) (h:Rd (·<w.heap.size) w (.sl 6 (l.map Bx.d)) [v]) (hf:∀ x∈l,x.Rv) : Calls Tryz.prog 23 #[v] w (gu (.int .i64 (jm l:Nat)) w):=by
 obtain ⟨a,c,hv,hs⟩:=Rd.aC h;obtain ⟨n,hn⟩:∃ n,n=l.length:=⟨_,rfl⟩;obtain rfl:v=.slice a n c:=by rw [hn];simpa using hv
 have hcap:n<=c:=by have:=hs.le;rw [List.length_map] at this;omega
 have hmx:=hs.max;unfold maxLen at hmx;have HE:Hid (jm l=if 4096<n then 3 else jl [] 0 l):=by rw [hn];rfl
 obtain ⟨V,hV⟩:∃ V,V=jm l:=⟨_,rfl⟩;rw [<- hV] at HE ⊢;have HN:=Lib.hid hn;have HSL:=Lib.hid hs;have HF:=Lib.hid hf;clear h hv hn hs hf hV;by_cases hbig:4096<n
 ·have q1:decide ((4096:Int)<(n:Int))=true:=by simp;omega
  have HV:Hid (V=3):=by show V=3;rw [HE.out,if_pos hbig]
  clear hbig HE;go_enter Tryz.func23,Tryz.ntmps23;go_wp2;go_ret;exact ⟨by rw [HV.out];rfl,jox _ _⟩
 have q1:decide ((4096:Int)<(n:Int))=false:=by simp;omega
 have Gr:Hid (V=jl [] 0 l):=by show V=_;rw [HE.out,if_neg hbig]
 obtain ⟨mb,hmb⟩:∃ mb,mb=w.heap.size:=⟨_,rfl⟩;obtain ⟨w1,hw1⟩:∃ w1,w1=w.alloc (.map #[] 0):=⟨_,rfl⟩;have R0:Hid (UF w mb l V (.int .i64 0) (.int .i64 0) w1):=⟨0,0,jpj _,rfl,rfl,by rw [hw1,hmb];exact bT.made w,by rw [hw1];exact (jox _ _).alloc (joz _) _,Gr.out.symm⟩;have YE:=Lib.hid hmb;have hmm:=@run_makeMap Tryz.prog;clear HE Gr;go_enter Tryz.func23,Tryz.ntmps23;go_wp2;rw [<- hw1,<- hmb];clear hmm hw1 hmb q1
 go_loopw [4,15] (fun vg vi wr=>UF w mb l V vg vi wr) (fun _ vi _=>n-(intOf vi).toNat)
 case atStart=>exact R0.out
 case round=>
  clear R0;obtain ⟨k,g,hk,rfl,rfl,hset,hbel,aU⟩:=hrel;by_cases hlt:k<n
  ·obtain ⟨y,hy⟩:∃ y,l[k]?=some y:=⟨_,joq (by have:=HN.out;omega)⟩;have Zv:=HF.out y (jpk hy);rw [NJ l k y hy] at aU;have Zw:=lG hy;have Zx:=Ag l HF.out k;obtain ⟨yt,yh,yg,yk,yf,ya⟩:=y;obtain ⟨b,off,va,rfl,-,hbl,⟨c0,c1,c2,c3,c4,c5⟩,hva⟩:=mQ HSL.out hy;have e1:∀ j x,w.cell? ⟨b,j,none⟩=some x->wr.cell? ⟨b,j,none⟩=some x:=fun j x e=>by rw [hbel.cell (p:=⟨b,j,none⟩) (jY e)];exact e
   have c0:=e1 _ _ c0;have c1:=e1 _ _ c1;have c2:=e1 _ _ c2;have c3:=e1 _ _ c3;have c4:=e1 _ _ c4;have c5:=e1 _ _ c5;obtain ⟨aa,ca,NK,hsa⟩:=Rd.aC hva;obtain ⟨na,hna⟩:∃ na,na=ya.length:=⟨_,rfl⟩;obtain rfl:va=.slice aa na ca:=by rw [hna];simpa using NK
   have hca:na<=ca:=by have:=hsa.le;rw [List.length_map] at this;omega
   have jh1:=hsa.max;unfold maxLen at jh1;have Zy:na<=1000:=by have:=Zv.n;rw [hna];exact this
   obtain ⟨q,hq⟩:∃ q,q=wr.heap.size:=⟨_,rfl⟩;obtain ⟨wq,hwq⟩:∃ wq,wq=wr.alloc (.cells #[.string yt,.int .i64 yh,.int .i64 yg,.bool yk,.bool yf,.slice aa na ca] 54):=⟨_,rfl⟩;have kq:CB 54 q [.string yt,.int .i64 yh,.int .i64 yg,.bool yk,.bool yf,.slice aa na ca] wq:=by rw [hwq,hq];exact CB.new _ _ _
   have bq:js2 wr.heap.size wr wq:=by rw [hwq];exact (jox _ _).alloc (joz _) _
   have SQ:=Lib.hid (hset.below bq);have BQ:=Lib.hid (aP hbel bq);have KQ:=Lib.hid kq;have d0:=kq.cell 0 _ rfl;have d1:=kq.cell 1 _ rfl;have HY:=Lib.hid hy;have HFY:=Lib.hid Zv;have Zz:=Lib.hid hsa;have MU:=Lib.hid hna;have cK:=Lib.hid aU;have ZB:=Lib.hid Zw;have jh2:=Lib.hid Zx;clear hset hbel hy Zv aU Zw Zx hva NK hsa hna kq bq hbl e1;by_cases hh:yh<1\/1048576<yh
   ·have HV:Hid (V=9):=by
     show V=9;have h:=cK.out;rw [jl,show oC (l7 l k) g ⟨yt,yh,yg,yk,yf,ya⟩=9 from by unfold oC;rw [if_pos hh]] at h;rw [<- h];rfl
    rcases hh with hh | hh
    case' inl=>
     have q1:decide (yh<1)=true:=by simp;omega
     clear hh
    case' inr=>
     have q1:decide (yh<1)=false:=by simp;omega
     have q2:decide ((1048576:Int)<yh)=true:=by simp;omega
     clear hh
    all_goals
     go_upto_region 8 with (fail)
     rw [<- hwq,<- hq];clear hwq hq;go_wp2;go_ret;exact ⟨by rw [HV.out];rfl,BQ.out⟩
   have q1:decide (yh<1)=false:=by simp;omega
   have q2:decide ((1048576:Int)<yh)=false:=by simp;omega
   have hh1:Hid (oC (l7 l k) g ⟨yt,yh,yg,yk,yf,ya⟩=if dW yt=false then 17 else if yg<g then 5 else uS (l7 l k) ya):=by show _=_;unfold oC;rw [if_neg hh]
   have VC:=Lib.hid (jN yt wq (by have:=HFY.out.t;dsimp only at this;omega));clear hh;cases hvv:dW yt with
   | false=>
    rw [hvv] at VC;have HV:Hid (V=17):=by show V=17;have h:=cK.out;rw [jl,hh1.out,if_pos hvv] at h;rw [<- h];rfl
    clear hvv;go_upto_region 8 with (fail)
    rw [<- hwq,<- hq];clear hwq hq;go_wp2_with fail
    refine VC.out.mono ?_;rintro e w3 ⟨rfl,qn,rfl⟩;go_wp2;go_ret;exact ⟨by rw [HV.out];rfl,eZ BQ.out _⟩
   | true=>
   rw [hvv] at VC;have ZC:Hid (oC (l7 l k) g ⟨yt,yh,yg,yk,yf,ya⟩=if yg<g then 5 else uS (l7 l k) ya):=by show _=_;rw [hh1.out,if_neg (by rw [hvv];decide)]
   clear hvv hh1;by_cases hg:yg<g
   ·have q3:decide (yg<g)=true:=by simpa using hg
    have HV:Hid (V=5):=by show V=5;have h:=cK.out;rw [jl,ZC.out,if_pos hg] at h;rw [<- h];rfl
    clear hg;go_upto_region 8 with (fail)
    rw [<- hwq,<- hq];clear hwq hq;go_wp2_with fail
    refine VC.out.mono ?_;rintro e w3 ⟨rfl,qn,rfl⟩;have d2:=(CB.dN KQ.out qn).cell 2 _ rfl;go_wp2;go_ret;exact ⟨by rw [HV.out];rfl,eZ BQ.out _⟩
   have q3:decide (yg<g)=false:=by simpa using hg
   have hh3:Hid (oC (l7 l k) g ⟨yt,yh,yg,yk,yf,ya⟩=uS (l7 l k) ya):=by show _=_;rw [ZC.out,if_neg hg]
   clear hg ZC;go_upto_region 8 with (fail)
   rw [<- hwq,<- hq];clear hwq hq;go_wp2_with fail
   refine VC.out.mono ?_;rintro e w3 ⟨rfl,qn,rfl⟩;have d2:=(CB.dN KQ.out qn).cell 2 _ rfl;have d5:=(CB.dN KQ.out qn).cell 5 _ rfl;obtain ⟨w3,hw3⟩:∃ w3,w3=wq.drewN qn:=⟨_,rfl⟩;have B3:Hid (js2 w.heap.size w w3):=by rw [hw3];exact eZ BQ.out _
   have S3:Hid (bT w3 mb (l7 l k).length (l7 l k).reverse):=by rw [hw3];exact SQ.out
   rw [<- hw3] at d2 d5 ⊢;obtain ⟨E1,hE1⟩:∃ E1,E1=uS (l7 l k) ya:=⟨_,rfl⟩;have R1:Hid (UG w mb (l7 l k) ya E1 (.int .i64 0) w3):=⟨0,jpj _,rfl,by simpa using S3.out,B3.out,by rw [hE1];simp⟩;rw [<- hE1] at hh3;clear hw3 hE1 d0 d1 VC SQ BQ KQ S3 c0 c1 c2 c3 c4 c5;go_wp2
   go_loopw [40] (fun vi wr=>UG w mb (l7 l k) ya E1 vi wr) (fun vi _=>na-(intOf vi).toNat)
   case atStart=>exact R1.out
   case round=>
    clear R1 d2 d5;obtain ⟨j,hj,rfl,hset,hbel,aU⟩:=hrel;by_cases hjt:j<na
    ·obtain ⟨x,hx⟩:∃ x,ya[j]?=some x:=⟨_,joq (by have:=MU.out;omega)⟩;obtain ⟨b2,off2,rfl,-,-,f0⟩:=uT Zz.out hx;have f0:wr.cell? ⟨b2,off2+j,none⟩=some (.string x):=by rw [hbel.cell (p:=⟨b2,off2+j,none⟩) (jY f0)];exact f0
     have hxs:=HFY.out.a x (jpk hx);have CN:=Lib.hid (fun w=>MV x w (by omega));have hlk:=hset.look x (by unfold maxLen;omega);obtain ⟨w',hup,hS',hgr⟩:=hset.put x (by unfold maxLen;omega) (by have:=jh2.out;have:=HN.out;unfold maxLen;omega);rw [kE] at hlk;have Jv:Hid (l7 l k++ya.take (j+1)=l7 l k++ya.take j++[x]):=by show _=_;rw [jq3,hx];simp
     rw [NJ ya j x hx,uS] at aU;have lX:=Lib.hid aU;have yK:=Lib.hid hbel;have HS5:=Lib.hid hS';have uU:=Lib.hid (hbel.grown hgr hbel.size (fun j hj=>by cases hj;rw [YE.out];exact joz _));clear aU hS' hgr hset hbel hx;cases hn:fO x with
     | false=>
      rw [hn] at CN;have HV:Hid (V=6):=by show V=6;have h:=lX.out;rw [if_pos hn] at h;have h2:=cK.out;rw [jl,hh3.out,<- h] at h2;exact h2.symm
      clear hn hup hlk;go_wp2_with fail
      refine (CN.out _).mono ?_;rintro e w5 ⟨rfl,rfl⟩;go_wp2;go_ret;exact ⟨by rw [HV.out];rfl,yK.out⟩
     | true=>
      rw [hn] at CN;cases hb:fu (l7 l k++ya.take j) x with
      | true=>
       rw [hb] at hlk;have HV:Hid (V=7):=by show V=7;have h:=lX.out;rw [if_neg (by rw [hn];decide),if_pos hb] at h;have h2:=cK.out;rw [jl,hh3.out,<- h] at h2;exact h2.symm
       clear hn hb hup;go_wp2_with fail
       refine (CN.out _).mono ?_;rintro e w5 ⟨rfl,rfl⟩;go_wp2;go_ret;exact ⟨by rw [HV.out];rfl,yK.out⟩
      | false=>
       rw [hb] at hlk;have Hg:Hid (uS (l7 l k++ya.take (j+1)) (ya.drop (j+1))=E1):=by show _=_;have h:=lX.out;rw [if_neg (by rw [hn];decide),if_neg (by rw [hb];decide)] at h;rw [Jv.out];exact h
       clear hn hb;go_wp2_with fail
       refine (CN.out _).mono ?_;rintro e w5 ⟨rfl,rfl⟩;go_wp2;go_roundw;case rel=>exact ⟨j+1,by have:=MU.out;omega,by go_num,by rw [Jv.out,List.reverse_append];exact HS5.out,uU.out,Hg.out⟩
       case measure=>simp [intOf];omega
    ·have hjn:j=ya.length:=by have:=MU.out;omega
     rw [hjn,jq5,List.drop_length,uS] at aU;rw [hjn,jq5,<- jp4] at hset;have hje:j=na:=by have:=MU.out;omega
     have HS5:Hid (bT wr mb (l7 l (k+1)).length (l7 l (k+1)).reverse):=by rw [ZB.out];exact hset
     have uU:=Lib.hid hbel;have HE5:Hid (jl (l7 l (k+1)) yg (l.drop (k+1))=V):=by show _=_;have h2:=cK.out;rw [jl,hh3.out,<- aU] at h2;rw [ZB.out];simpa using h2
     clear aU hset hbel hjn;go_wp2;go_roundw;case rel=>exact ⟨k+1,yg,by have:=HN.out;omega,by go_num,rfl,HS5.out,uU.out,HE5.out⟩
     case measure=>simp [intOf];omega
  ·have hkn:k=n:=by have:=HN.out;omega
   have hkl:k=l.length:=by have:=HN.out;omega
   rw [hkl,List.drop_length,jl] at aU;have HV:Hid (V=0):=aU.symm;have uU:=Lib.hid hbel;clear aU hset hbel hkl;go_wp2;go_ret;exact ⟨by rw [HV.out];rfl,uU.out⟩
end Go.Proofs.YtdneicipdlofiaaGreatDoor

