/- The contract of slug.named. slug.Anchors: what its second loop keeps. slug.Anchors. Plain part: the identifiers of a document, in the reference's order and in the program's. Plain part: what a small document's parts are bounded by, for layer 21. The boxes of a document, plainly: what boxes.Of makes. Contracts of boxes.shown and of the function that calls itself in it. publisherref21.IDs: the identifiers of blocks and of what is in them. -/
import Derived.Test.YtnmldmofggkoeaaGreatDoorKAnchW
import Derived.Test.YtnmldmofggkoeaaGreatDoorKSlugAll
import Derived.Test.YtnmldmofggkoeaaGreatDoorKRList
set_option maxHeartbeats 4000000
set_option maxRecDepth 100000
open Go.Lib (hid)
namespace Go.Proofs.YtnmldmofggkoeaaGreatDoor
open List renaming append_assoc->Y2
open Go renaming World->Zu
open Go.RowKit
set_option linter.unusedVariables false
set_option linter.unusedSimpArgs false
section
variable {w:Zu} {bx p:Nat} {cs:List Value} {v:Value} {n:Nat} {rows:List (List Value)} {l:List aj} {A A':List ByteArray} {wr w':Zu}
end
open Go.RowKit Go.Shelf
section
variable {S D bx:Nat} {w W W':Zu} {A:List ByteArray} {vm vb:Value}
end
open Go.RowKit Go.Shelf
attribute [local go_sem] Oper.semAt_some
def zq (a:At):List ByteArray:=if a.id.data.toList=[] then [] else [a.id]
mutual
def aj.ids:aj->List ByteArray
 | .mk _ _ _ _ _ _ a li ks=>zq a++gK (ah.aC li)++aj.F7 ks
def aj.F7:List aj->List ByteArray
 | []=>[]
 | x::l=>x.ids++aj.F7 l
end
mutual
def ah.shown:ah->List UInt8
 | .mk k t d _ _ _ _ ks=>
  if k=1\/k=4\/k=5 then t.data.toList else if k=2 then [32] else if k=3 then [10] else if k=16 then d.data.toList
  else if k=12 then 91::(t.data.toList++[93]) else if k=6\/k=7\/k=8\/k=9\/k=10\/k=11 then ah.ay ks else []
def ah.ay:List ah->List UInt8
 | []=>[]
 | x::l=>x.shown++ah.ay l
end
def dL (l:List ah):ByteArray:=⟨(ah.ay l).toArray⟩
def CO:ByteArray:=⟨#[10]⟩
def eH (s:ByteArray):List ByteArray:=Lib.splitB CO 0 (Lib.countB s CO) s
def kR (s:ByteArray) (wd:Int):List ByteArray:=mZ (q01 s) (uw (bP (q01 s)) 30 wd)
def nT (s:ByteArray):Nat:=if 4096<(q01 s).length\/∃ x∈q01 s,1048576<cO x then 3 else 0
def nS:List ByteArray->Nat
 | []=>0
 | s::l=>if nT s≠0 then nT s else nS l
def nV (wd:Int) (l:List ByteArray):List ByteArray:=l.flatMap (kR · wd)
def eO (li:List ah):Nat:=nS (eH (dL li))
def dM (l:List ByteArray):List ByteArray:=if l=[] then [⟨#[]⟩] else l
def bV (li:List ah) (wd:Int):List ByteArray:=dM (nV wd (eH (dL li)))
structure Px where
 first:ByteArray
 rest:ByteArray
def Px.inner (p:Px) (W:Int):Int:=max 1 (W-max (cO p.first:Int) (cO p.rest:Int))
def Px.text (p:Px) (i:Nat) (s:ByteArray):ByteArray:=if i=0 then p.first++s else p.rest++s
def rW (n:Nat):ByteArray:=⟨(List.replicate n (32:UInt8)).toArray⟩
def Px.mark (p:Px) (m:ByteArray):Px:=⟨p.first++m,p.rest++rW m.size⟩
def Px.next (p:Px):Px:=⟨p.rest,p.rest⟩
structure Bx where
 text:ByteArray
 ht:Int
 gr:Int
 keep:Bool
 fl:Bool
 an:List ByteArray
def Bx.new (s:ByteArray) (h:Int) (k:Bool):Bx:=⟨s,h,0,k,false,[]⟩
structure St where
 groups:Nat
 pend:List ByteArray
 count:Nat
 lH:Bool
 err:Nat
def iW (p:Px) (h:Int) (keep:Nat->Bool) (ts:List ByteArray):List Bx:=(List.range ts.length).map fun i=>Bx.new (p.text i (ts.getD i ⟨#[]⟩)) h (keep i)
def sD (g:Nat) (an:List ByteArray) (x:Bx):Bx:={ x with gr:=g,an:=an }
def dI (g:Nat) (x:Bx):Bx:={ x with gr:=g }
def jZ (st:St) (l:List Bx) (own:List ByteArray):List Bx × St:=
 if st.lH=true then (l,st)
 else (match l with
  | []=>[]
  | x::r=>sD st.groups (st.pend++own) x::r.map (dI st.groups),{ st with groups:=st.groups+1,pend:=[],count:=st.count+l.length })
def bO (a:At) (li:List ah):List ByteArray:=zq a++gK (ah.aC li)
def iG (s:ByteArray):ByteArray:=⟨(Lib.trimSuffix s.data.toList [10]).toArray⟩
def Jm (l:List ByteArray) (sep:List UInt8):ByteArray:=⟨(Lib.join (l.map (·.data.toList)) sep).toArray⟩
def Da:aj->List aj | .mk _ _ _ _ _ _ _ _ ks=>ks
def Vs:aj->List ah | .mk _ _ _ _ _ _ _ li _=>li
def XT:aj->At | .mk _ _ _ _ _ _ a _ _=>a
def Kc (r:aj):ByteArray:=Jm ((Da r).map fun c=>dL (Vs c)) [32,124,32]
def SH (r:aj):List ByteArray:=(Da r).flatMap fun c=>bO (XT c) (Vs c)
def Im (l:List Bx) (rs:List aj):List Bx:=(l.zip rs).map fun z=>{ z.1 with an:=z.1.an++SH z.2 }
def xY (st:St) (p:Px) (ks:List aj):List Bx × St:=
 let r:=jZ st (iW p 1 (fun i=>decide (i=0)&&decide (1<ks.length)) (ks.map Kc)) []
 if st.lH=true then r else (Im r.1 ks,r.2)
def SI:ByteArray:=⟨#[102,105,103,117,114,101]⟩
def SK (l:List Bx):Int:=l.foldl (fun n x=>n+x.ht) 0
def M8 (p:Px) (kids:List Bx):Bx:=if kids=[] then ⟨p.first,1,0,false,true,[]⟩ else ⟨Jm (kids.map Bx.text) [10],SK kids,0,false,true,[]⟩
def Po:ByteArray:=⟨#[62,32]⟩
def SL:ByteArray:=⟨#[46,32]⟩
def Pp:ByteArray:=⟨#[45,32]⟩
def FW (n:Int):ByteArray:=⟨(Lib.decDigits n.toNat).toArray⟩
def dV (k lv:Int) (i:Nat):ByteArray:=if k=8 then FW (lv+i)++SL else Pp
def St.lim (s:St):St:=if 4096<s.count/\s.err=0 then { s with err:=3 } else s
def ahead (o:List Bx) (r:List Bx × St):List Bx × St:=if r.2.err≠0 then ([],r.2) else (o++r.1,r.2)
mutual
def aj.iF (W:Int) (st:St) (p:Px):aj->List Bx × St
 | .mk k lv i t d ti a li ks=>
  if k=1\/k=2 then
   if eO li≠0 then ([],{ st with err:=eO li })
   else jZ st (iW p (if k=2 then 2 else 1) (fun j=>decide (k=2)||(decide (1<(bV li (p.inner W)).length)&&(decide (j=0)||decide (j+2=(bV li (p.inner W)).length)))) (bV li (p.inner W))) (bO a li)
  else if k=3\/k=4 then jZ st (iW p 1 (fun j=>decide (k=4)&&decide (j+1<(eH (iG t)).length)) (eH (iG t))) (bO a li)
  else if k=5 then jZ st [Bx.new (p.first++⟨#[45,45,45]⟩) 1 false] (bO a li)
  else if k=10 then xY st p ks
  else if k=6 then aj.fA W st ⟨p.first++Po,p.rest++Po⟩ ks
  else if k=7\/k=8 then aj.mX W st p k lv 0 ks
  else if k=13 then
   if i=SI then
    let r:=aj.fA W { st with lH:=true } p ks
    if r.2.err≠0 then ([],{ r.2 with lH:=st.lH })
    else jZ { r.2 with lH:=st.lH } [M8 p r.1] (bO a li++aj.F7 ks)
   else
    let r:=aj.fA W (if a.id.data.toList≠[]/\st.lH=false then { st with pend:=st.pend++[a.id] } else st) p ks
    if r.1≠[]\/a.id.data.toList=[]\/r.2.err≠0 then r else jZ r.2 [Bx.new (p.first++⟨#[]⟩) 1 false] []
  else if k=14 then aj.fA W st (p.mark (⟨#[91]⟩++i++⟨#[93,32]⟩)) ks
  else ([],st)
def aj.fA (W:Int) (st:St) (p:Px):List aj->List Bx × St
 | []=>([],st)
 | x::l=>
  let r:=x.iF W st p
  if r.2.lim.err≠0 then ([],r.2.lim) else ahead r.1 (aj.fA W r.2.lim p.next l)
def aj.mX (W:Int) (st:St) (p:Px) (k lv:Int) (i:Nat):List aj->List Bx × St
 | []=>([],st)
 | x::l=>
  let r:=x.uM W st (p.mark (dV k lv i))
  if r.2.err≠0 then ([],r.2) else ahead r.1 (aj.mX W r.2 p.next k lv (i+1) l)
def aj.uM (W:Int) (st:St) (q:Px):aj->List Bx × St
 | .mk k lv i t d ti a li ks=>if ks=[] then jZ st [Bx.new (q.first++⟨#[]⟩) 1 false] [] else aj.fA W st q ks
end
def iq (W:Int) (l:List aj):List Bx × Nat:=
 let r:=aj.fA W ⟨0,[],0,false,0⟩ ⟨⟨#[]⟩,⟨#[]⟩⟩ l
 if r.2.err≠0 then ([],r.2.err) else if 4096<r.1.length then ([],3) else (r.1,0)
open Go.RowKit
theorem qh (l m:List ah):ah.ay (l++m)=ah.ay l++ah.ay m:=by
 induction l with
 | nil=>rw [ah.ay];rfl
 | cons x l ih=>rw [List.cons_append,ah.ay,ah.ay,ih,Y2]
theorem mV (l:List ah) (k:Nat) (x:ah) (h:l[k]?=some x):ah.ay (l.take (k+1))=ah.ay (l.take k)++x.shown:=by rw [List.take_add_one,h,qh];simp [ah.ay]
theorem BO (l:List ah) (k:Nat):(ah.ay (l.take k)).length<=(ah.ay l).length:=by have h:l=l.take k++l.drop k:=(List.take_append_drop k l).symm;have:=congrArg (fun l=>(ah.ay l).length) h;rw [qh] at this;simp at this;omega
theorem E9 (l:List ah) (k:Nat) (x:ah) (h:l[k]?=some x):(ah.ay (l.take k)).length+x.shown.length<=(ah.ay l).length:=by have h1:=BO l (k+1);rw [mV l k x h,List.length_append] at h1;exact h1
theorem wQ (k:Int):(k=1\/k=4\/k=5)\/k=2\/k=3\/k=16\/k=12\/(k=6\/k=7\/k=8\/k=9\/k=10\/k=11)\/(k≠1/\k≠4/\k≠5/\k≠2/\k≠3/\k≠6/\k≠7/\k≠8/\k≠9/\k≠10/\k≠11/\k≠16/\k≠12):=by omega
theorem wR (t:ByteArray):((⟨#[91]⟩:ByteArray)++t++⟨#[93]⟩).data.toList=91::(t.data.toList++[93]):=by rw [ByteArray.data_append,ByteArray.data_append,Array.toList_append,Array.toList_append];rfl
def Pq (S:Nat):Value:=.func (.func 96) #[] #[.pointer (some ⟨S,0,none⟩),.pointer (some ⟨S+1,0,none⟩)]
structure FK (S:Nat) (l:List UInt8) (w:Zu):Prop where
 b:Lib.IsBuilderF 133 5 S S (Lib.byteCells l) w
 f:aP (S+1) (Pq S) 81 w
theorem FK.alloc {S:Nat} {l:List UInt8} {w:Zu} (h:FK S l w) (o:Obj):FK S l (w.alloc o):=⟨h.b.alloc o,h.f.alloc o⟩
theorem Ht {S:Nat} {P:List UInt8} {w:Zu} (h:FK S P w) (s:ByteArray) (hl:P.length+s.size<=1000000000) : Calls Tryz.prog 97 #[.pointer (some ⟨S,0,none⟩),.string s] w fun e w'=>e=.returned (.tuple #[.int .i64 s.size,.nilIface])/\FK S (P++s.data.toList) w'/\Below S w w':=
 (qy S S (Lib.byteCells P) s w h.b (by rw [Lib.byteCells_length];omega) (by have:=h.f.lt;omega)).mono fun _ w' ⟨he,hw⟩=>
  ⟨he,⟨by rw [Lib.byteCells_append,<- nJ];exact hw.1,hw.2.2 (S+1) _ h.f (by simp) (by intro c fz e;simp at e)⟩,hw.2.1⟩
def Pt (S:Nat) (pre:List UInt8) (l:List ah) (w:Zu) (vi:Value) (wr:Zu):Prop:=
 ∃ k:Nat,k<=l.length/\vi=.int .i64 k/\FK S (pre++ah.ay (l.take k)) wr/\Below S w wr
def LG (S:Nat) (out:List UInt8) (w:Zu) (e:Ending) (w':Zu):Prop:=e=.returned (.tuple #[])/\FK S out w'/\Below S w w'
theorem y8 (S:Nat) (n:Nat):∀ (l:List ah) (pre:List UInt8) (v:Value) (w:Zu),ah.aW l<=n->Rd (·<S) w (fq l) [v]->pre.length+(ah.ay l).length<=1000000->FK S pre w -> Calls Tryz.prog 96 #[v,.pointer (some ⟨S,0,none⟩),.pointer (some ⟨S+1,0,none⟩)] w (LG S (pre++ah.ay l) w):=by
 induction n using Nat.strongRecOn with
 | _ n ih=>
  intro l pre v w hn hrd hlen hbd;obtain ⟨a,cap,hv,hs⟩:=Rd.aD hrd;obtain rfl:v=.slice a l.length cap:=by simpa using hv
  have hcap:l.length<=cap:=by simpa using hs.le
  have hmx:=hs.max;have HS:=hid hs;have HZ:Hid (pre++ah.ay (l.take 0)=pre):=by show pre++ah.ay []=pre;rw [ah.ay,List.append_nil]
  have IH:=hid ih;have HB:=hid hbd;clear hs hv hrd ih hbd;unfold maxLen at hmx;go_enter Tryz.func96,Tryz.ntmps96;go_wp2
  go_loopw [8] (fun vi wr=>Pt S pre l w vi wr) (fun i _=>l.length-(intOf i).toNat)
  case atStart=>exact ⟨0,Nat.zero_le _,rfl,by rw [HZ.out];exact HB.out,Below.refl _ _⟩
  case round=>
   obtain ⟨k,hk,rfl,hbd,hbel⟩:=hrel;by_cases hlt:k<l.length
   ·obtain ⟨x,hx⟩:∃ x,l[k]?=some x:=⟨_,List.getElem?_eq_getElem hlt⟩;obtain ⟨kd,t,d,ti,at_,ar,ci,ks⟩:=x;obtain ⟨g,off,vc,vp,va,vi,vk,rfl,hok,hbl,hc,hR⟩:=gT (HS.out.below hbel) hx;obtain ⟨c0,c1,c2,c3,c4,c5,c6,c7,c8,c9⟩:=hc;obtain ⟨ac,nc,cc,rfl⟩:=Rd.au hR.at_.cls
    obtain ⟨ap,np,cp,rfl⟩:=Rd.au hR.at_.aT
    obtain ⟨aa,na,ca,rfl⟩:=Rd.au hR.args;obtain ⟨ai,ni,LU,rfl⟩:=Rd.au hR.gq;obtain ⟨ak,nk,ck,rfl⟩:=Rd.au hR.kids;have uK:=hR.kids;have hsz:=ah.cZ l k _ hx;rw [ah.sz] at hsz;have HT:=hid (mV l k _ hx);have hle:=E9 l k _ hx;obtain ⟨p,hp⟩:∃ p,p=wr.heap.size:=⟨_,rfl⟩;obtain ⟨w0,hw0⟩:∃ w0,w0=wr.alloc (.cells #[.int .i64 kd,.string t,.string d,.string ti,.string at_.id,.slice ac nc cc,.slice ap np cp,.slice aa na ca,.slice ai ni LU,.slice ak nk ck] 52):=⟨_,rfl⟩;have k0:CB 52 p [.int .i64 kd,.string t,.string d,.string ti,.string at_.id,.slice ac nc cc,.slice ap np cp,.slice aa na ca,.slice ai ni LU,.slice ak nk ck] w0:=by rw [hw0,hp];exact CB.new _ _ _
    have hS2:S<=wr.heap.size:=by have:=hbd.f.lt;omega
    have b0:Below S wr w0:=by rw [hw0];exact (Below.refl _ _).alloc hS2 _
    have i0:FK S (pre++ah.ay (l.take k)) w0:=by rw [hw0];exact hbd.alloc _
    have ik:=fun pr h1 h2=>IH.out (ah.aW ks) (by omega) ks pr (.slice ak nk ck) w0 (Nat.le_refl _) (uK.below b0) h1 h2
    have IK:=hid ik;have B0:=hid (hbel.trans b0);have d0:=k0.cell 0 _ rfl;have d1:=k0.cell 1 _ rfl;have d2:=k0.cell 2 _ rfl;have d7:=k0.cell 9 _ rfl;have fc:=i0.f.cell;unfold Pq at fc;have HI:=hid i0;have hpl:(pre++ah.ay (l.take k)).length=pre.length+(ah.ay (l.take k)).length:=by simp
    clear hx uK hR ik hbd hbel i0 b0 k0 hsz hok hbl;go_upto_region 3 with (fail)
    rw [<- hw0,<- hp];clear hw0 hp c0 c1 c2 c3 c4 c5 c6 c7 c8 c9;generalize hacc:ah.ay (l.take k)=acc at *;generalize hacc':ah.ay (l.take (k+1))=acc' at *;have Ah:=hid hacc';clear hacc hacc';obtain ⟨P,hP⟩:∃ P,P=pre++acc:=⟨_,rfl⟩;have HP:=hid hP;rw [<- hP] at HI hpl;clear hP;have WS:=hid (fun (s:ByteArray) (h:P.length+s.size<=1000000000)=>Ht HI.out s h);have rQ:=hid (fun h=>IK.out P h HI.out);clear IK;rcases wQ kd with (rfl | rfl | rfl) | rfl | rfl | rfl | rfl | (rfl | rfl | rfl | rfl | rfl | rfl) | h
    ·have hp:(ah.mk 1 t d ti at_ ar ci ks).shown=t.data.toList:=by rw [ah.shown];simp
     rw [hp] at HT hle;have W1:=hid (WS.out t (by rw [Lib.size_eq];omega));clear hp hle WS rQ;go_wp2_with fail
     (with_reducible refine W1.out.mono ?_)
     rintro e w1 ⟨rfl,B1,b1⟩;have HB1:=hid B1;clear B1;go_wp2;go_roundw;case rel=>exact ⟨k+1,by omega,by go_num,by rw [Ah.out,HT.out,<- Y2,<- HP.out];exact HB1.out,B0.out.trans b1⟩
     case measure=>simp [intOf];omega
    ·have hp:(ah.mk 4 t d ti at_ ar ci ks).shown=t.data.toList:=by rw [ah.shown];simp
     rw [hp] at HT hle;have W1:=hid (WS.out t (by rw [Lib.size_eq];omega));clear hp hle WS rQ;go_wp2_with fail
     (with_reducible refine W1.out.mono ?_)
     rintro e w1 ⟨rfl,B1,b1⟩;have HB1:=hid B1;clear B1;go_wp2;go_roundw;case rel=>exact ⟨k+1,by omega,by go_num,by rw [Ah.out,HT.out,<- Y2,<- HP.out];exact HB1.out,B0.out.trans b1⟩
     case measure=>simp [intOf];omega
    ·have hp:(ah.mk 5 t d ti at_ ar ci ks).shown=t.data.toList:=by rw [ah.shown];simp
     rw [hp] at HT hle;have W1:=hid (WS.out t (by rw [Lib.size_eq];omega));clear hp hle WS rQ;go_wp2_with fail
     (with_reducible refine W1.out.mono ?_)
     rintro e w1 ⟨rfl,B1,b1⟩;have HB1:=hid B1;clear B1;go_wp2;go_roundw;case rel=>exact ⟨k+1,by omega,by go_num,by rw [Ah.out,HT.out,<- Y2,<- HP.out];exact HB1.out,B0.out.trans b1⟩
     case measure=>simp [intOf];omega
    ·have hp:(ah.mk 2 t d ti at_ ar ci ks).shown=[32]:=by rw [ah.shown];simp
     rw [hp] at HT hle;have W1:=hid (WS.out ⟨#[32]⟩ (by simp only [List.length_cons,List.length_nil] at hle;show P.length+1<=_;omega));clear hp hle WS rQ;go_wp2_with fail
     (with_reducible refine W1.out.mono ?_)
     rintro e w1 ⟨rfl,B1,b1⟩;have HB1:=hid B1;clear B1;go_wp2;go_roundw;case rel=>exact ⟨k+1,by omega,by go_num,by rw [Ah.out,HT.out,<- Y2,<- HP.out];exact HB1.out,B0.out.trans b1⟩
     case measure=>simp [intOf];omega
    ·have hp:(ah.mk 3 t d ti at_ ar ci ks).shown=[10]:=by rw [ah.shown];simp
     rw [hp] at HT hle;have W1:=hid (WS.out ⟨#[10]⟩ (by simp only [List.length_cons,List.length_nil] at hle;show P.length+1<=_;omega));clear hp hle WS rQ;go_wp2_with fail
     (with_reducible refine W1.out.mono ?_)
     rintro e w1 ⟨rfl,B1,b1⟩;have HB1:=hid B1;clear B1;go_wp2;go_roundw;case rel=>exact ⟨k+1,by omega,by go_num,by rw [Ah.out,HT.out,<- Y2,<- HP.out];exact HB1.out,B0.out.trans b1⟩
     case measure=>simp [intOf];omega
    ·have hp:(ah.mk 16 t d ti at_ ar ci ks).shown=d.data.toList:=by rw [ah.shown];simp
     rw [hp] at HT hle;have W1:=hid (WS.out d (by rw [Lib.size_eq];omega));clear hp hle WS rQ;go_wp2_with fail
     (with_reducible refine W1.out.mono ?_)
     rintro e w1 ⟨rfl,B1,b1⟩;have HB1:=hid B1;clear B1;go_wp2;go_roundw;case rel=>exact ⟨k+1,by omega,by go_num,by rw [Ah.out,HT.out,<- Y2,<- HP.out];exact HB1.out,B0.out.trans b1⟩
     case measure=>simp [intOf];omega
    ·have hp:(ah.mk 12 t d ti at_ ar ci ks).shown=91::(t.data.toList++[93]):=by rw [ah.shown];simp
     rw [hp] at HT hle;have ht1:t.size<=1000000:=by simp only [List.length_cons,List.length_append,List.length_nil] at hle;rw [Lib.size_eq];omega
     have ht0:(ByteArray.mk #[91]).size=1:=rfl;have ht2:(ByteArray.mk #[93]).size=1:=rfl;have W1:=hid (WS.out (⟨#[91]⟩++t++⟨#[93]⟩) (by rw [Lib.size_eq,wR];omega));rw [wR] at W1;clear hp hle WS rQ;go_wp2_with fail
     (with_reducible refine W1.out.mono ?_)
     rintro e w1 ⟨rfl,B1,b1⟩;have HB1:=hid B1;clear B1;go_wp2;go_roundw;case rel=>exact ⟨k+1,by omega,by go_num,by rw [Ah.out,HT.out,<- Y2,<- HP.out];exact HB1.out,B0.out.trans b1⟩
     case measure=>simp [intOf];omega
    ·have hp:(ah.mk 6 t d ti at_ ar ci ks).shown=ah.ay ks:=by rw [ah.shown];simp
     rw [hp] at HT hle;have W1:=hid (rQ.out (by omega));clear hp hle WS rQ;generalize ah.ay ks=pk at *;go_wp2_with fail
     (with_reducible refine W1.out.mono ?_)
     rintro e w1 ⟨rfl,B1,b1⟩;have HB1:=hid B1;clear B1;go_wp2;go_roundw;case rel=>exact ⟨k+1,by omega,by go_num,by rw [Ah.out,HT.out,<- Y2,<- HP.out];exact HB1.out,B0.out.trans b1⟩
     case measure=>simp [intOf];omega
    ·have hp:(ah.mk 7 t d ti at_ ar ci ks).shown=ah.ay ks:=by rw [ah.shown];simp
     rw [hp] at HT hle;have W1:=hid (rQ.out (by omega));clear hp hle WS rQ;generalize ah.ay ks=pk at *;go_wp2_with fail
     (with_reducible refine W1.out.mono ?_)
     rintro e w1 ⟨rfl,B1,b1⟩;have HB1:=hid B1;clear B1;go_wp2;go_roundw;case rel=>exact ⟨k+1,by omega,by go_num,by rw [Ah.out,HT.out,<- Y2,<- HP.out];exact HB1.out,B0.out.trans b1⟩
     case measure=>simp [intOf];omega
    ·have hp:(ah.mk 8 t d ti at_ ar ci ks).shown=ah.ay ks:=by rw [ah.shown];simp
     rw [hp] at HT hle;have W1:=hid (rQ.out (by omega));clear hp hle WS rQ;generalize ah.ay ks=pk at *;go_wp2_with fail
     (with_reducible refine W1.out.mono ?_)
     rintro e w1 ⟨rfl,B1,b1⟩;have HB1:=hid B1;clear B1;go_wp2;go_roundw;case rel=>exact ⟨k+1,by omega,by go_num,by rw [Ah.out,HT.out,<- Y2,<- HP.out];exact HB1.out,B0.out.trans b1⟩
     case measure=>simp [intOf];omega
    ·have hp:(ah.mk 9 t d ti at_ ar ci ks).shown=ah.ay ks:=by rw [ah.shown];simp
     rw [hp] at HT hle;have W1:=hid (rQ.out (by omega));clear hp hle WS rQ;generalize ah.ay ks=pk at *;go_wp2_with fail
     (with_reducible refine W1.out.mono ?_)
     rintro e w1 ⟨rfl,B1,b1⟩;have HB1:=hid B1;clear B1;go_wp2;go_roundw;case rel=>exact ⟨k+1,by omega,by go_num,by rw [Ah.out,HT.out,<- Y2,<- HP.out];exact HB1.out,B0.out.trans b1⟩
     case measure=>simp [intOf];omega
    ·have hp:(ah.mk 10 t d ti at_ ar ci ks).shown=ah.ay ks:=by rw [ah.shown];simp
     rw [hp] at HT hle;have W1:=hid (rQ.out (by omega));clear hp hle WS rQ;generalize ah.ay ks=pk at *;go_wp2_with fail
     (with_reducible refine W1.out.mono ?_)
     rintro e w1 ⟨rfl,B1,b1⟩;have HB1:=hid B1;clear B1;go_wp2;go_roundw;case rel=>exact ⟨k+1,by omega,by go_num,by rw [Ah.out,HT.out,<- Y2,<- HP.out];exact HB1.out,B0.out.trans b1⟩
     case measure=>simp [intOf];omega
    ·have hp:(ah.mk 11 t d ti at_ ar ci ks).shown=ah.ay ks:=by rw [ah.shown];simp
     rw [hp] at HT hle;have W1:=hid (rQ.out (by omega));clear hp hle WS rQ;generalize ah.ay ks=pk at *;go_wp2_with fail
     (with_reducible refine W1.out.mono ?_)
     rintro e w1 ⟨rfl,B1,b1⟩;have HB1:=hid B1;clear B1;go_wp2;go_roundw;case rel=>exact ⟨k+1,by omega,by go_num,by rw [Ah.out,HT.out,<- Y2,<- HP.out];exact HB1.out,B0.out.trans b1⟩
     case measure=>simp [intOf];omega
    ·obtain ⟨h1,h4,h5,h2,h3,h6,h7,h8,h9,h10,h11,h16,h12⟩:=h;have hp:(ah.mk kd t d ti at_ ar ci ks).shown=[]:=by rw [ah.shown];simp [h1,h2,h3,h4,h5,h6,h7,h8,h9,h10,h11,h16,h12]
     rw [hp] at HT;have f1:=beq_false_of_ne h1;have f2:=beq_false_of_ne h2;have f3:=beq_false_of_ne h3;have f4:=beq_false_of_ne h4;have f5:=beq_false_of_ne h5;have f6:=beq_false_of_ne h6;have f7:=beq_false_of_ne h7;have f8:=beq_false_of_ne h8;have f9:=beq_false_of_ne h9;have f10:=beq_false_of_ne h10;have f11:=beq_false_of_ne h11;have f12:=beq_false_of_ne h12;have f16:=beq_false_of_ne h16;clear hp h1 h2 h3 h4 h5 h6 h7 h8 h9 h10 h11 h16 h12 hle WS rQ;go_wp2;go_roundw;case rel=>exact ⟨k+1,by omega,by go_num,by rw [Ah.out,HT.out,List.append_nil,<- HP.out];exact HI.out,B0.out⟩
     case measure=>simp [intOf];omega
   ·have hkl:k=l.length:=by omega
    have hE:ah.ay (l.take k)=ah.ay l:=by rw [hkl,List.take_length]
    rw [hE] at hbd;have nH:=hid hbd;clear hkl hE hbd;go_wp2
    go_end0
    exact ⟨rfl,nH.out,hbel⟩
theorem AL (l:List ah) (v:Value) (w:Zu) (h:Rd (·<w.heap.size) w (fq l) [v]) (hlen:(ah.ay l).length<=1000000) : Calls Tryz.prog 74 #[v] w fun e w'=>e=.returned (.string (dL l))/\Below w.heap.size w w':=by
 obtain ⟨S,hS⟩:∃ S,S=w.heap.size:=⟨_,rfl⟩;obtain ⟨w0,hw0⟩:∃ w0,w0=w.alloc (.cells #[.pointer none,.slice none 0 0] 133):=⟨_,rfl⟩;obtain ⟨w1,hw1⟩:∃ w1,w1=w0.alloc (.cells #[Pq S] 81):=⟨_,rfl⟩;have b0:Below S w w0:=by rw [hw0];exact (Below.refl _ w).alloc (by omega) _
 have hz0:w0.heap.size=S+1:=by rw [hw0,hS];simp
 have b1:Below S w w1:=by rw [hw1];exact b0.alloc (by omega) _
 have i1:FK S [] w1:=by
  refine ⟨?_,?_⟩
  ·rw [hw1];refine Lib.IsBuilderF.alloc ?_ _;rw [hw0,hS];exact Lib.IsBuilderF.of (Lib.fresh_isBuilder 133 5 w)
  ·rw [hw1,<- hz0];exact aP.new _ _ _
 have SC:=hid (y8 S _ l [] v w1 (Nat.le_refl _) (by rw [<- hS] at h;exact h.below b1) (by simpa using hlen) i1);have fc:=i1.f.cell;unfold Pq at fc;have B1:=hid b1;have HS:=hid hS;clear h b0 b1 i1 hlen;go_enter Tryz.func74,Tryz.ntmps74;go_upto_region 4 with (fail)
 rw [<- hS];rw [show World.alloc w (.cells #[.pointer none,.slice none 0 0] 133)=w0 from hw0.symm];unfold Pq at hw1;rw [<- hw1];clear hw0 hw1 hS hz0;go_wp2_with fail
 (with_reducible refine SC.out.mono ?_)
 rintro e w2 ⟨rfl,h2,b2⟩;have ST:=hid (Tryz.Builder_String_any_k S S _ w2 h2.b (by have:=h2.f.lt;omega));have B2:=hid (B1.out.trans b2);clear SC h2 b2 fc;go_wp2_with fail
 refine ST.out.mono ?_;rintro e w3 ⟨rfl,-,b3,-⟩;go_wp2;go_ret;exact ⟨rfl,by rw [<- HS.out];exact B2.out.trans b3⟩
open Go.RowKit
section
variable {w0 w w1 w2:Zu} {xs ys:List ByteArray} {v v':Value}
end
theorem G7 {ok:Nat->Prop} {W wr:Zu} {B:Nat} {v:Value} {inl:List ah} {rows:List (List Value)} (hown:wr.ownsRow B 52 10 v inl.length rows.flatten) (hrd:aG ok W (inl.map ah.d) rows) (h10:∀ r∈rows,r.length=10) {k:Nat} {kd:Int} {t d ti:ByteArray} {at_:At} {ar:List ByteArray} {ci:List Ci} {ks:List ah} (hx:inl[k]?=some (.mk kd t d ti at_ ar ci ks)) : ∃ g cap ac nc cc ap np cp aa na ca ai ni ci ak nk ck,v=.slice (some ⟨g,0,none⟩) inl.length cap/\dD wr g (k*10) kd t d ti at_.id (.slice ac nc cc) (.slice ap np cp) (.slice aa na ca) (.slice ai ni ci) (.slice ak nk ck):=by
 have hlt:k<inl.length:=(List.getElem?_eq_some_iff.1 hx).1;obtain ⟨r,hr,SN⟩:=hrd.get k _ (by rw [List.getElem?_map,hx];rfl);obtain ⟨vc,vp,va,vi,vk,hcs,hR⟩:=ah.open_ SN;obtain ⟨ac,nc,cc,rfl⟩:=Rd.au hR.at_.cls
 obtain ⟨ap,np,cp,rfl⟩:=Rd.au hR.at_.aT
 obtain ⟨aa,na,ca,rfl⟩:=Rd.au hR.args;obtain ⟨ai,ni,ci,rfl⟩:=Rd.au hR.gq;obtain ⟨ak,nk,ck,rfl⟩:=Rd.au hR.kids;obtain ⟨g,cap,rfl,hcap⟩:=kT hown (by omega);refine ⟨g,cap,ac,nc,cc,ap,np,cp,aa,na,ca,ai,ni,ci,ak,nk,ck,rfl,dD.of hcs fun j u hu=>?_⟩;have hf:=flat_get 10 rows h10 k j r u hr hu;have hj:j<10:=by have h5:=(List.getElem?_eq_some_iff.1 hu).1;have:=h10 r (List.mem_of_getElem? hr);omega
 exact (hown.cellAt (k*10+j) (by omega)).trans hf
end Go.Proofs.YtnmldmofggkoeaaGreatDoor

