/- Contracts of count.kindOf, caption. Contracts of toc.isToc and attr.Get. -/
import Derived.Test.YtlbioncagkkkoaaGreatDoorKTcM
import Derived.Test.YtlbioncagkkkoaaGreatDoorKEnW
import Derived.Test.YtlbioncagkkkoaaGreatDoorKChA
import Derived.BigGuardPart
set_option maxHeartbeats 4000000
set_option maxRecDepth 100000
open Go.Lib (hid)
namespace Go.Proofs.YtlbioncagkkkoaaGreatDoor
open Go.RowKit
set_option linter.unusedVariables false
set_option linter.unusedSimpArgs false
def kindS (free:Bool) (k:Int) (i:ByteArray) (id:ByteArray):ByteArray:=
 if k=2/\free=true then secS else if k=13/\(i=figS\/i=tabS) then i else if k=4/\id.data.toList≠[] then equS else ⟨#[]⟩
theorem lit_eq (s:ByteArray) (L:List UInt8):(s.toList==L)=decide (s=⟨L.toArray⟩):=by
 rw [Lib.toList_data,Bool.eq_iff_iff,beq_iff_eq,decide_eq_true_eq]
 constructor
 ·intro h
  apply ByteArray.ext
  apply Array.toList_inj.1
  rw [h]
 ·rintro rfl;rfl
theorem kindOf_any (free:Bool) (k lv:Int) (i t d ti:ByteArray) (at_:At) (ac ap al ak:Option Addr) (nc cc np cp nl cl nk ck:Nat) (w:World) :
  Calls Tryz.prog 48 #[.agg #[.int .i64 k,.int .i64 lv,.string i,.string t,.string d,.string ti,.string at_.id,.slice ac nc cc,.slice ap np cp,.slice al nl cl,.slice ak nk ck],.bool free] w fun e w'=>e=.returned (.string (kindS free k i at_.id))/\w'=w.alloc (.cells #[.int .i64 k,.int .i64 lv,.string i,.string t,.string d,.string ti,.string at_.id,.slice ac nc cc,.slice ap np cp,.slice al nl cl,.slice ak nk ck] 53):=by
 have hf:=lit_eq i [102,105,103,117,114,101]
 have hg:=lit_eq i [116,97,98,108,101]
 have he:at_.id.toList.isEmpty=decide (at_.id.data.toList=[]):=by rw [q19];rfl
 have HE:Hid (kindS free k i at_.id=if k=2/\free=true then secS else if k=13/\(decide (i=figS)=true\/decide (i=tabS)=true) then i else if k=4/\decide (at_.id.data.toList=[])=false then equS else ⟨#[]⟩):=by
  show _=_
  unfold kindS
  simp only [decide_eq_true_eq,decide_eq_false_iff_not,ne_eq]
 change (i.toList==_)=decide (i=figS) at hf
 change (i.toList==_)=decide (i=tabS) at hg
 generalize kindS free k i at_.id=V at *
 generalize decide (i=figS)=bf at *
 generalize decide (i=tabS)=bg at *
 generalize decide (at_.id.data.toList=[])=be at *
 have hk:k=2\/k=13\/k=4\/(k≠2/\k≠13/\k≠4):=by omega
 obtain ⟨w1,hw1⟩:∃ w1,w1=w.alloc (.cells #[.int .i64 k,.int .i64 lv,.string i,.string t,.string d,.string ti,.string at_.id,.slice ac nc cc,.slice ap np cp,.slice al nl cl,.slice ak nk ck] 53):=⟨_,rfl⟩
 have k1:CB 53 w.heap.size [.int .i64 k,.int .i64 lv,.string i,.string t,.string d,.string ti,.string at_.id,.slice ac nc cc,.slice ap np cp,.slice al nl cl,.slice ak nk ck] w1:=by rw [hw1];exact CB.new _ _ _
 have B1:=hid hw1
 have p0:=k1.cell 0 _ rfl
 have p2:=k1.cell 2 _ rfl
 have p6:=k1.cell 6 _ rfl
 clear k1
 rcases hk with rfl | rfl | rfl | ⟨k2,k3,k4⟩
 ·cases free<;>cases be
  all_goals
   go_enter Tryz.func48,Tryz.ntmps48
   go_upto_region 1 with (fail)
   rw [<- hw1]
   clear hw1
   go_wp2
   go_ret
   exact ⟨by rw [HE.out];rfl,B1.out⟩
 ·cases bf<;>cases bg
  all_goals
   go_enter Tryz.func48,Tryz.ntmps48
   go_upto_region 1 with (fail)
   rw [<- hw1]
   clear hw1
   go_wp2
   go_ret
   exact ⟨by rw [HE.out];rfl,B1.out⟩
 ·cases be
  all_goals
   go_enter Tryz.func48,Tryz.ntmps48
   go_upto_region 1 with (fail)
   rw [<- hw1]
   clear hw1
   go_wp2
   go_ret
   exact ⟨by rw [HE.out];rfl,B1.out⟩
 ·have e2:(k==2)=false:=by rw [beq_eq_false_iff_ne];exact k2
  have e3:(k==13)=false:=by rw [beq_eq_false_iff_ne];exact k3
  have e4:(k==4)=false:=by rw [beq_eq_false_iff_ne];exact k4
  have HV:Hid (V=⟨#[]⟩):=by show V=_;rw [HE.out,if_neg (fun h=>k2 h.1),if_neg (fun h=>k3 h.1),if_neg (fun h=>k4 h.1)]
  clear k2 k3 k4 HE
  go_enter Tryz.func48,Tryz.ntmps48
  go_upto_region 1 with (fail)
  rw [<- hw1]
  clear hw1
  go_wp2
  go_ret
  exact ⟨by rw [HV.out];rfl,B1.out⟩
def isPara (b:Blk):Bool:=decide (b.kindOf=1)
def CaRel (l:List Blk) (w:World) (vi:Value) (wr:World):Prop:=
 ∃ k:Nat,k<=l.length/\vi=.int .i64 k/\(l.drop (max k 1)).find? isPara=(l.drop 1).find? isPara/\Below w.heap.size w wr
theorem caption_any (l:List Blk) (v:Value) (w:World) (hbd:Blk.bdL l) (hrd:Rd (·<w.heap.size) w (q0x l) [v]) :
  Calls Tryz.prog 51 #[v] w (LcPost w (capL l)):=by
 obtain ⟨a,cap,hv,hs⟩:=Rd.sl_open hrd
 obtain rfl:v=.slice a l.length cap:=by simpa using hv
 have hcap:l.length<=cap:=by simpa using hs.le
 have hmx:=hs.max
 unfold maxLen at hmx
 have HS:=hid hs
 have HBD:=hid hbd
 obtain ⟨C,hC⟩:∃ C,C=capL l:=⟨_,rfl⟩
 have HC:Hid (C=match (l.drop 1).find? isPara with
  | some b=>b.lineOf
  | none=>[]):=hC
 rw [<- hC]
 have R0:Hid (CaRel l w (.int .i64 0) w):=⟨0,Nat.zero_le _,rfl,rfl,Below.refl _ _⟩
 clear hs hv hrd hbd hC
 go_enter Tryz.func51,Tryz.ntmps51
 go_wp2
 go_loopw [7] (fun vi wr=>CaRel l w vi wr) (fun vi _=>l.length-(intOf vi).toNat)
 case atStart=>exact R0.out
 case round=>
  clear R0
  obtain ⟨k,hk,rfl,hfi,hbel⟩:=hrel
  have HB:=hid hbel
  have HF:=hid hfi
  by_cases hlt:k<l.length
  ·obtain ⟨x,hx⟩:∃ x,l[k]?=some x:=⟨_,List.getElem?_eq_getElem hlt⟩
   have hxb:=Blk.bdL_get l k x HBD.out hx
   have hdr:1<=k->l.drop (max k 1)=x::l.drop (k+1):=fun h=>by rw [show max k 1=k by omega];exact q0s l k x hx
   have HDR:=hid hdr
   obtain ⟨kd,lv,i,t,d,ti,at_,li,ks⟩:=x
   rw [Blk.bd] at hxb
   obtain ⟨-,-,hl1,hl2,-⟩:=hxb
   obtain ⟨b,off,vc,vp,vl,vkk,rfl,hok,-,hc,hR⟩:=q1w HS.out hx
   obtain ⟨ac,nc,cc,rfl⟩:=Rd.slf hR.at_.cls
   obtain ⟨ap,np,cp,rfl⟩:=Rd.slf hR.at_.prs
   obtain ⟨al,nl,cl,rfl⟩:=Rd.slf hR.line
   obtain ⟨ak,nk,ck,rfl⟩:=Rd.slf hR.kids
   obtain ⟨c0,c1,c2,c3,c4,c5,c6,c7,c8,c9,c10⟩:=hc.at2 (hbel.block b hok)
   obtain ⟨wi,hwi⟩:∃ wi,wi=wr.alloc (.cells #[.int .i64 kd,.int .i64 lv,.string i,.string t,.string d,.string ti,.string at_.id,.slice ac nc cc,.slice ap np cp,.slice al nl cl,.slice ak nk ck] 53):=⟨_,rfl⟩
   have bi:Below wr.heap.size wr wi:=by rw [hwi];exact (Below.refl _ _).alloc (Nat.le_refl _) _
   have kb:CB 53 wr.heap.size [.int .i64 kd,.int .i64 lv,.string i,.string t,.string d,.string ti,.string at_.id,.slice ac nc cc,.slice ap np cp,.slice al nl cl,.slice ak nk ck] wi:=by rw [hwi];exact CB.new _ _ _
   have p0:=kb.cell 0 _ rfl
   have p9:=kb.cell 9 _ rfl
   have BI:=hid (q01 HB.out bi)
   have CL_:=hid (cCopyLine_any _ li wi.heap.size (.slice al nl cl) wi (Nat.le_refl _) hl2 (hR.line.up (q01 hbel bi)) (Nat.le_refl _) hl1)
   clear hx hc hR hok hbel bi kb hdr hfi hl1 hl2
   go_upto_region 4 with (fail)
   rw [<- hwi]
   clear hwi c0 c1 c2 c3 c4 c5 c6 c7 c8 c9 c10
   by_cases hk0:k=0
   ·have q1:decide ((0:Int)<(k:Int))=false:=by simp;omega
    have q2:decide (0<k)=false:=by simp;omega
    have HN:Hid ((l.drop (max (k+1) 1)).find? isPara=(l.drop 1).find? isPara):=by show _=_;rw [hk0];rfl
    clear hk0
    go_wp2
    go_roundw
    case rel=>exact ⟨k+1,by omega,by go_num,HN.out,BI.out⟩
    case measure=>simp [intOf];omega
   have q1:decide ((0:Int)<(k:Int))=true:=by simp;omega
   have q2:decide (0<k)=true:=by simp;omega
   by_cases hp:kd=1
   ·subst hp
    have hcv:C=li:=by
     rw [HC.out,<- HF.out,HDR.out (by omega),List.find?_cons_of_pos (by rfl)]
     rfl
    clear HC
    subst hcv
    go_wp2_with fail
    refine CL_.out.mono ?_
    rintro e w3 ⟨v3,rfl,h3,b3⟩
    obtain ⟨a3,n3,c3,rfl⟩:=Rd.slf h3
    have H3:=hid h3
    have B3:=hid (q01 BI.out b3)
    have hz:=BI.out.size
    clear h3 b3
    go_wp2
    go_ret
    exact ⟨_,rfl,Rd.keep (fun b hb _=>⟨by show w.heap.size<=b;have:wi.heap.size<=b:=hb;omega,rfl⟩) _ _ H3.out,B3.out⟩
   ·have q3:(kd==1)=false:=by rw [beq_eq_false_iff_ne];exact hp
    have HN:Hid ((l.drop (max (k+1) 1)).find? isPara=(l.drop 1).find? isPara):=by
     show _=_
     rw [<- HF.out,HDR.out (by omega),List.find?_cons_of_neg (by unfold isPara Blk.kindOf;simpa using hp),show max (k+1) 1=k+1 by omega]
    clear hp hk0
    go_wp2
    go_roundw
    case rel=>exact ⟨k+1,by omega,by go_num,HN.out,BI.out⟩
    case measure=>simp [intOf];omega
  ·have hcv:C=[]:=by
    rw [HC.out,<- HF.out,List.drop_of_length_le (by omega)]
    rfl
   clear HC hfi hbel
   subst hcv
   go_wp2
   go_ret
   exact ⟨.slice none 0 0,rfl,Rd.nil_mk _ _ _,HB.out⟩
open Go.RowKit
theorem isToc_any (k lv:Int) (i t d ti id:ByteArray) (ac ap al ak:Option Addr) (nc cc np cp nl cl nk ck:Nat) (w:World) :
  Calls Tryz.prog 71 #[.agg #[.int .i64 k,.int .i64 lv,.string i,.string t,.string d,.string ti,.string id,.slice ac nc cc,.slice ap np cp,.slice al nl cl,.slice ak nk ck]] w fun e w'=>e=.returned (.bool (decide (k=13/\i=tocS)))/\Below w.heap.size w w':=by
 have hf:=lit_eq i [116,111,99]
 have HE:Hid (decide (k=13/\i=tocS)=(decide (k=13)&&decide (i=tocS))):=by show _=_;rw [Bool.decide_and]
 change (i.toList==_)=decide (i=tocS) at hf
 rw [HE.out]
 generalize decide (i=tocS)=bf at *
 obtain ⟨w1,hw1⟩:∃ w1,w1=w.alloc (.cells #[.int .i64 k,.int .i64 lv,.string i,.string t,.string d,.string ti,.string id,.slice ac nc cc,.slice ap np cp,.slice al nl cl,.slice ak nk ck] 53):=⟨_,rfl⟩
 have k1:CB 53 w.heap.size [.int .i64 k,.int .i64 lv,.string i,.string t,.string d,.string ti,.string id,.slice ac nc cc,.slice ap np cp,.slice al nl cl,.slice ak nk ck] w1:=by rw [hw1];exact CB.new _ _ _
 have B1:Hid (Below w.heap.size w w1):=by show Below _ _ _;rw [hw1];exact (Below.refl _ _).alloc (Nat.le_refl _) _
 have p0:=k1.cell 0 _ rfl
 have p2:=k1.cell 2 _ rfl
 clear k1 HE
 by_cases hk:k=13
 ·subst hk
  go_enter Tryz.func71,Tryz.ntmps71
  go_upto_region 1 with (fail)
  rw [<- hw1]
  clear hw1
  go_wp2
  go_ret
  exact ⟨by simp,B1.out⟩
 ·have q1:(k==13)=false:=by rw [beq_eq_false_iff_ne];exact hk
  have HQ:Hid (decide (k=13)=false):=decide_eq_false hk
  go_enter Tryz.func71,Tryz.ntmps71
  go_upto_region 1 with (fail)
  rw [<- hw1]
  clear hw1 hk
  go_wp2
  go_ret
  exact ⟨by rw [HQ.out];rfl,B1.out⟩
theorem getP_snoc (l:List Pr) (k:Nat) (p:Pr) (key:ByteArray) (h:l[k]?=some p) (h0:getP (l.take k) key=none):getP (l.take (k+1)) key=if p.key=key then some p.val else none:=by
 unfold getP at h0 ⊢
 rw [Option.map_eq_none_iff] at h0
 rw [List.take_add_one,h,List.find?_append,h0]
 by_cases e:p.key=key<;>simp [e]
theorem getP_more (l:List Pr) (k:Nat) (key:ByteArray) (v:ByteArray) (h:getP (l.take k) key=some v):getP l key=some v:=by
 unfold getP at h ⊢
 rw [Option.map_eq_some_iff] at h ⊢
 obtain ⟨p,hp,rfl⟩:=h
 refine ⟨p,?_,rfl⟩
 rw [<- List.take_append_drop k l,List.find?_append,hp];rfl
def GtRel (w:World) (l:List Pr) (key:ByteArray) (vi:Value) (wr:World):Prop:=
 ∃ k:Nat,k<=l.length/\vi=.int .i64 k/\getP (l.take k) key=none/\Below w.heap.size w wr
theorem get_any (id key:ByteArray) (prs:List Pr) (ac:Option Addr) (nc cc:Nat) (vp:Value) (w:World) (hp:Rd (·<w.heap.size) w (prsD prs) [vp]) :
  Calls Tryz.prog 37 #[.agg #[.string id,.slice ac nc cc,vp],.string key] w fun e w'=>e=.returned (.tuple #[.string ((getP prs key).getD ⟨#[]⟩),.bool (getP prs key).isSome])/\Below w.heap.size w w':=by
 obtain ⟨a,cap,hv,hs⟩:=Rd.sl_open hp
 obtain rfl:vp=.slice a prs.length cap:=by simpa using hv
 have hcap:prs.length<=cap:=by simpa using hs.le
 have hmx:=hs.max
 unfold maxLen at hmx
 obtain ⟨w1,hw1⟩:∃ w1,w1=w.alloc (.cells #[.string id,.slice ac nc cc,.slice a prs.length cap] 44):=⟨_,rfl⟩
 have k1:CB 44 w.heap.size [.string id,.slice ac nc cc,.slice a prs.length cap] w1:=by rw [hw1];exact CB.new _ _ _
 have B1:Hid (Below w.heap.size w w1):=by show Below _ _ _;rw [hw1];exact (Below.refl _ _).alloc (Nat.le_refl _) _
 have HS:=hid hs
 have p2:=k1.cell 2 _ rfl
 have R0:Hid (GtRel w prs key (.int .i64 0) w1):=⟨0,Nat.zero_le _,rfl,by unfold getP;simp,B1.out⟩
 clear hp hv hs k1
 go_enter Tryz.func37,Tryz.ntmps37
 go_upto_region 1 with (fail)
 rw [<- hw1]
 clear hw1
 go_wp2
 go_loopw [11] (fun vi wr=>GtRel w prs key vi wr) (fun i _=>prs.length-(intOf i).toNat)
 case atStart=>exact R0.out
 case round=>
  clear R0 p2
  obtain ⟨k,hk,rfl,hno,hbel⟩:=hrel
  have HNO:=hid hno
  have HBEL:=hid hbel
  have hwz:=hbel.size
  clear hno
  by_cases hlt:k<prs.length
  ·obtain ⟨p,hx⟩:∃ p,prs[k]?=some p:=⟨_,List.getElem?_eq_getElem hlt⟩
   have hsr:=HS.out.below hbel
   obtain ⟨b,off,rfl,hb,hbl,hc⟩:=hsr.at_ (by simp;omega)
   obtain ⟨r,hr,hl,hcell⟩:=hc k p.d (by rw [List.getElem?_map,hx];rfl)
   obtain rfl:=Pr.open_ hr
   have c0:wr.cell? ⟨b,off+k*2,none⟩=some (.string p.key):=hcell 0 _ rfl
   have c1:wr.cell? ⟨b,off+k*2+1,none⟩=some (.string p.val):=hcell 1 _ rfl
   have HSN:=hid (getP_snoc prs k p key hx HNO.out)
   have HMO:=hid (getP_more prs (k+1) key p.val)
   obtain ⟨pk,pv⟩:=p
   dsimp only at c0 c1
   clear hsr hb hbl hc hr hl hcell hx hbel
   by_cases he:pk=key
   ·subst he
    have HG:Hid (getP prs pk=some pv):=HMO.out (by rw [HSN.out,if_pos rfl])
    go_wp2
    exact bodyPost_ret (v:=.tuple #[.string pv,.bool true]) (by simp [results,Tryz.results37,go_sem]) rfl ⟨by rw [HG.out];rfl,HBEL.out.alloc hwz _⟩
   ·have e1:=str_ne he
    have HG:Hid (getP (prs.take (k+1)) key=none):=by show _=_;rw [HSN.out,if_neg he]
    go_wp2
    go_roundw
    case rel=>exact ⟨k+1,by omega,by go_num,HG.out,HBEL.out.alloc hwz _⟩
    case measure=>simp [intOf];omega
  ·have hkl:k=prs.length:=by omega
   subst hkl
   rw [List.take_length] at HNO
   clear hbel
   go_wp2
   exact bodyPost_ret (v:=.tuple #[.string ⟨#[]⟩,.bool false]) (by simp [results,Tryz.results37,go_sem]) rfl ⟨by rw [HNO.out];rfl,HBEL.out⟩
end Go.Proofs.YtlbioncagkkkoaaGreatDoor
