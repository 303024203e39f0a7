/- Contracts of publisherref04.reference, anyOf, auto. Contract of publisherref04.inlineFields. -/
import Derived.Test.YtclikfjalmcoaaaGreatDoorKRfD
import Derived.Test.YtclikfjalmcoaaaGreatDoorKChG
set_option maxHeartbeats 8000000
set_option maxRecDepth 100000
open Go.Lib (hid)
namespace Go.Proofs.YtclikfjalmcoaaaGreatDoor
open Go.RowKit.Below renaming refl->jh1
open Go.RowKit
set_option linter.unusedVariables false
set_option linter.unusedSimpArgs false
theorem tL (k:Int) (ks:List Int) (w:World) (T:TypeId) (hks:ks.length<=1000) : Calls Tryz.prog 202 #[.int .i64 k,.slice (some ⟨w.heap.size,0,none⟩) ks.length ks.length] (w.alloc (.cells (ks.map (Value.int .i64)).toArray T)) fun e w'=>e=.returned (.bool (ks.contains k))/\Below w.heap.size w w':=by
 refine (Si k ks w.heap.size ks.length _ hks (fun j x hx=>?_)).mono fun e w' h=>⟨h.1,by rw [<- h.2];exact (jh1 _ _).alloc (Nat.le_refl _) _⟩
 have:=GN w (ks.map (Value.int .i64)) T j (.int .i64 x) (by rw [List.getElem?_map,hx];rfl);have e:((⟨w.heap.size,0,none⟩:Addr).add j)=⟨w.heap.size,j,none⟩:=by unfold Addr.add;split<;>simp_all
 rwa [e] at this
theorem yL (k:Int) (w:World):Calls Tryz.prog 240 #[.int .i64 k] w (bR (.bool (bX.contains k)) w):=by
 have IL:=hid (tL k [9,16,12,14,13] w 3 (by decide));have HV:Hid (bX.contains k=([9,16,12,14,13]:List Int).contains k):=rfl;generalize bX.contains k=V at *;generalize ([9,16,12,14,13]:List Int).contains k=V2 at *;go_enter Tryz.func240,Tryz.ntmps240;go_wp2_with fail
 refine IL.out.mono ?_;rintro e w1 ⟨rfl,b1⟩;have HB:=hid b1;clear b1 IL;go_wp2;go_ret;exact ⟨by rw [HV.out];rfl,HB.out⟩
def Ul (l:List aj) (ks:List Int) (w:World) (vi:Value) (wr:World):Prop:=∃ k:Nat,k<=l.length/\vi=.int .i64 k/\aj.cO ks (l.take k)=false/\Below w.heap.size w wr
theorem WK (k:Int):dJ.contains k=((k==2)||(k==3)):=by unfold dJ;rw [Bool.eq_iff_iff];simp
theorem I7 (n:Nat):∀ (l:List aj) (v:Value) (le:Bool) (w:World),aj.aZ l<=n->Rd (·<w.heap.size) w (bC l) [v] -> Calls Tryz.prog 220 #[v,.bool le] w (bR (.bool (aj.cO (if le then dJ else bX) l)) w):=by
 induction n using Nat.strongRecOn with
 | _ n ih=>
  intro l v le w hn hrd;obtain ⟨a,cp,hv,hs⟩:=Rd.aB hrd;obtain rfl:v=.slice a l.length cp:=by simpa using hv
  have hcap:l.length<=cp:=by simpa using hs.le
  have hmx:=hs.max;unfold maxLen at hmx;have HR:=hid hrd;have IH:=hid ih;obtain ⟨ks,hks⟩:∃ ks,ks=if le then dJ else bX:=⟨_,rfl⟩
  rw [<- hks];have Tk:=hid hks;have R0:Hid (Ul l ks w (.int .i64 0) w):=⟨0,Nat.zero_le _,rfl,by rw [List.take_zero,aj.cO],jh1 _ _⟩;obtain ⟨V,hV⟩:∃ V,V=aj.cO ks l:=⟨_,rfl⟩;rw [<- hV];have HV:=hid hV;clear hs hv hrd ih hks hV;go_enter Tryz.func220,Tryz.ntmps220;go_wp2
  go_loopw [5] (fun i wr=>Ul l ks w i wr) (fun i _=>l.length-(intOf i).toNat)
  case atStart=>exact R0.out
  case round=>
   clear R0;obtain ⟨k,hk,rfl,hno,hbel⟩:=hrel;have HN:=hid hno;have HB:=hid hbel;clear hno;by_cases hlt:k<l.length
   ·obtain ⟨x,hx⟩:∃ x,l[k]?=some x:=⟨_,List.getElem?_eq_getElem hlt⟩;have hsn:=aj.Bq ks hx;have HG:=hid (aj.yM ks hx);obtain ⟨kd,t,d,ti,at_,ar,ci,kids⟩:=x;obtain ⟨a',cp',hv',hs'⟩:=Rd.aB (HR.out.up hbel);obtain ⟨rfl,rfl⟩:a'=a/\cp'=cp:=by simp at hv';exact ⟨hv'.1.symm,hv'.2.symm⟩
    obtain ⟨b,off,vc,vp,va,vi,vk,rfl,hok,hbl,hcl,hR⟩:=Jp hs' hx;obtain ⟨c0,-,-,-,-,-,-,-,-,c9⟩:=hcl;have hsz:=aj.bE l k _ hx;rw [aj.sz] at hsz;have AK:=hid (fun (w2:World) (h2:Below wr.heap.size wr w2)=>IH.out (aj.aZ kids) (by omega) kids vk le w2 (Nat.le_refl _) (hR.kids.up h2));rw [<- Tk.out] at AK;obtain ⟨ak,nk,ck,rfl⟩:=Rd.DN hR.kids;have HX:Hid ((aj.mk kd t d ti at_ ar ci kids).Iz ks=(ks.contains kd||aj.cO ks kids)):=by show _=_;rw [aj.Iz]
    have iE:=hid hsn;have iW:Hid (∀ w2,Below wr.heap.size wr w2->w2.cell? ⟨b,off+k*10+9,none⟩=some (.slice ak nk ck)):=fun w2 h2=>by rw [h2.cell (p:=⟨b,off+k*10+9,none⟩) hbl];exact c9
    clear hx hR hsn hv' hs';cases le with
    | false=>
     obtain rfl:ks=bX:=Tk.out;have RF:=hid (yL kd);cases h1:bX.contains kd with
     | true=>
      rw [h1] at RF HX;have HE:Hid (V=true):=by show V=true;rw [HV.out];exact HG.out (by rw [HX.out];rfl)
      clear h1 hbel;go_wp2_with fail
      refine (RF.out _).mono ?_;rintro e w1 ⟨rfl,b1⟩;have HB1:=hid (aM HB.out b1);clear b1;go_wp2;go_ret;exact ⟨by rw [HE.out];rfl,HB1.out⟩
     | false=>
      rw [h1] at RF HX;clear h1 hbel;cases h2:aj.cO bX kids
      all_goals
       rw [h2] at AK HX
      case true=>
       have HE:Hid (V=true):=by show V=true;rw [HV.out];exact HG.out (by rw [HX.out];rfl)
       clear h2;go_wp2_with fail
       refine (RF.out _).mono ?_;rintro e w1 ⟨rfl,b1⟩;have c9:=iW.out w1 b1;have HB1:=hid b1;clear b1;go_wp2_with fail
       refine (AK.out _ HB1.out).mono ?_;rintro e w2 ⟨rfl,b2⟩;have HB2:=hid (aM (aM HB.out HB1.out) b2);clear b2;go_wp2;go_ret;exact ⟨by rw [HE.out];rfl,HB2.out⟩
      case false=>
       clear h2;go_wp2_with fail
       refine (RF.out _).mono ?_;rintro e w1 ⟨rfl,b1⟩;have c9:=iW.out w1 b1;have HB1:=hid b1;clear b1;go_wp2_with fail
       refine (AK.out _ HB1.out).mono ?_;rintro e w2 ⟨rfl,b2⟩;have HB2:=hid (aM (aM HB.out HB1.out) b2);clear b2;go_wp2;go_roundw;case rel=>exact ⟨k+1,by omega,by go_num,by rw [iE.out,HN.out,HX.out];rfl,HB2.out⟩
       case measure=>simp [intOf];omega
    | true=>
     obtain rfl:ks=dJ:=Tk.out;rw [WK] at HX;clear hbel;cases h1:(kd==2) with
     | true=>
      rw [h1] at HX;have HE:Hid (V=true):=by show V=true;rw [HV.out];exact HG.out (by rw [HX.out];rfl)
      go_wp2;go_ret;exact ⟨by rw [HE.out];rfl,HB.out⟩
     | false=>
      cases h3:(kd==3) with
      | true=>
       rw [h1,h3] at HX;have HE:Hid (V=true):=by show V=true;rw [HV.out];exact HG.out (by rw [HX.out];rfl)
       go_wp2;go_ret;exact ⟨by rw [HE.out];rfl,HB.out⟩
      | false=>
       rw [h1,h3] at HX;cases h2:aj.cO dJ kids
       all_goals
        rw [h2] at AK HX
       case true=>
        have HE:Hid (V=true):=by show V=true;rw [HV.out];exact HG.out (by rw [HX.out];rfl)
        clear h2;go_wp2_with fail
        refine (AK.out _ (jh1 _ _)).mono ?_;rintro e w2 ⟨rfl,b2⟩;have HB2:=hid (aM HB.out b2);clear b2;go_wp2;go_ret;exact ⟨by rw [HE.out];rfl,HB2.out⟩
       case false=>
        clear h2;go_wp2_with fail
        refine (AK.out _ (jh1 _ _)).mono ?_;rintro e w2 ⟨rfl,b2⟩;have HB2:=hid (aM HB.out b2);clear b2;go_wp2;go_roundw;case rel=>exact ⟨k+1,by omega,by go_num,by rw [iE.out,HN.out,HX.out];rfl,HB2.out⟩
        case measure=>simp [intOf];omega
   ·have HE:Hid (V=false):=by
     show V=false;rw [HV.out];have:=HN.out
     rwa [List.take_of_length_le (by omega)] at this
    clear hbel;go_wp2;go_ret;exact ⟨by rw [HE.out];rfl,HB.out⟩
theorem LV (s:ByteArray) (w:World) (hs:s.size<=1000000000) : Calls Tryz.prog 193 #[.string s] w (bR (.bool (mI s)) w):=by
 have HV:Hid (mI s=(decide (2<=gH s)&&decide (gH s<=20)&&decide (s.data.toList[gH s]?=some 58)&&eB s&&!oG s [32,60,62])):=rfl;have RL:=hid (fun w=>iA s w hs);have HH:=hid (fun w=>lI s ⟨#[32,60,62]⟩ w hs (by decide));change Hid (∀ w,Calls Tryz.prog 224 #[.string s,.string ⟨#[32,60,62]⟩] w (bR (.bool (oG s [32,60,62])) w)) at HH;have jcq:Hid (∀ k,k<=s.data.toList.length->(∀ j x,j<k->s.data.toList[j]?=some x->dM x.toNat=true)->(∀ x,s.data.toList[k]?=some x->dM x.toNat=false)->gH s=k):=fun k h1 h2 h3=>lS (fun c=>dM c.toNat) _ k h1 h2 h3
 generalize mI s=V at *;generalize gH s=R at *;generalize eB s=L at *;generalize oG s [32,60,62]=H at *;go_enter Tryz.func193,Tryz.ntmps193
 (try simp only [List.append_eq,List.cons_append,List.nil_append])
 go_wp2
 go_loop [3] (fun vi=>∃ k:Nat,k<=s.size/\vi=.int .i64 k/\∀ j x,j<k->s.data.toList[j]?=some x->dM x.toNat=true) (fun i=>s.size-(intOf i).toNat)
 case atStart=>exact ⟨0,Nat.zero_le _,rfl,fun j x hj=>by omega⟩
 case round=>
  obtain ⟨k,hk,rfl,hall⟩:=hrel;have Qs:=hid hall;clear hall;obtain ⟨B,hB⟩:∃ B,B=(decide (k<s.size)&&dM (bt s k)):=⟨_,rfl⟩;have HB:=hid hB;clear hB;go_upto_region 2 with (fail)
  go_cut [31] (fun s31 wx=>s31=.bool B/\w=wx)
  case first=>
   by_cases hlt:k<s.size
   ·have eb:=jh s k hlt;have hbl:=fB s k;have HB2:Hid (B=dM (bt s k)):=by show B=_;rw [HB.out,decide_eq_true hlt];rfl
    have ZR:Hid (dM (bt s k)=(decide (97<=bt s k/\bt s k<=122)||decide (65<=bt s k/\bt s k<=90))):=by show _=_;unfold dM lT;rw [Bool.eq_iff_iff];simp
    generalize bt s k=c at *;rcases (by omega:(97<=c/\c<=122)\/(122<c)\/(c<65)\/(65<=c/\c<=90)\/(90<c/\c<97)) with h | h | h | h | h
    ·have q1:decide ((97:Int)<=(s[k].toNat:Int))=true:=by rw [eb];simp;omega
     have q2:decide ((s[k].toNat:Int)<=(122:Int))=true:=by rw [eb];simp;omega
     have HT:Hid (B=true):=by show B=true;rw [HB2.out,ZR.out];simp;omega
     clear eb h;go_wp2_with fail
     go_meet
     exact ⟨by rw [HT.out],rfl⟩
    ·have q1:decide ((97:Int)<=(s[k].toNat:Int))=true:=by rw [eb];simp;omega
     have q2:decide ((s[k].toNat:Int)<=(122:Int))=false:=by rw [eb];simp;omega
     have q3:decide ((65:Int)<=(s[k].toNat:Int))=true:=by rw [eb];simp;omega
     have q4:decide ((s[k].toNat:Int)<=(90:Int))=false:=by rw [eb];simp;omega
     have HT:Hid (B=false):=by show B=false;rw [HB2.out,ZR.out];simp;omega
     clear eb h;go_wp2_with fail
     go_meet
     exact ⟨by rw [HT.out],rfl⟩
    ·have q1:decide ((97:Int)<=(s[k].toNat:Int))=false:=by rw [eb];simp;omega
     have q3:decide ((65:Int)<=(s[k].toNat:Int))=false:=by rw [eb];simp;omega
     have HT:Hid (B=false):=by show B=false;rw [HB2.out,ZR.out];simp;omega
     clear eb h;go_wp2_with fail
     go_meet
     exact ⟨by rw [HT.out],rfl⟩
    ·have q1:decide ((97:Int)<=(s[k].toNat:Int))=false:=by rw [eb];simp;omega
     have q3:decide ((65:Int)<=(s[k].toNat:Int))=true:=by rw [eb];simp;omega
     have q4:decide ((s[k].toNat:Int)<=(90:Int))=true:=by rw [eb];simp;omega
     have HT:Hid (B=true):=by show B=true;rw [HB2.out,ZR.out];simp;omega
     clear eb h;go_wp2_with fail
     go_meet
     exact ⟨by rw [HT.out],rfl⟩
    ·have q1:decide ((97:Int)<=(s[k].toNat:Int))=false:=by rw [eb];simp;omega
     have q3:decide ((65:Int)<=(s[k].toNat:Int))=true:=by rw [eb];simp;omega
     have q4:decide ((s[k].toNat:Int)<=(90:Int))=false:=by rw [eb];simp;omega
     have HT:Hid (B=false):=by show B=false;rw [HB2.out,ZR.out];simp;omega
     clear eb h;go_wp2_with fail
     go_meet
     exact ⟨by rw [HT.out],rfl⟩
   ·have HT:Hid (B=false):=by show B=false;rw [HB.out,decide_eq_false hlt];rfl
    have q1:decide ((k:Int)<(s.size:Int))=false:=by simp;omega
    go_wp2_with fail
    go_meet
    exact ⟨by rw [HT.out],rfl⟩
  case rest=>
   obtain ⟨rfl,rfl⟩:=hcut;cases B with
   | true=>
    have hb:=HB.out;have hlt:k<s.size:=by
     rcases Nat.lt_or_ge k s.size with h | h
     ·exact h
     ·rw [decide_eq_false (by omega)] at hb;cases hb
    have HC:Hid (dM (bt s k)=true):=by show _=true;rw [decide_eq_true hlt] at hb;exact hb.symm
    clear hb;go_wp2
    go_round
    case rel=>
     refine ⟨k+1,by omega,by go_num,fun j x hj hx=>?_⟩;rcases Nat.lt_or_ge j k with h | h
     ·exact Qs.out j x h hx
     ·have:j=k:=by omega
      subst this;rw [BI s j hlt] at hx;obtain rfl:=Option.some.inj hx;rw [jh s j hlt];exact HC.out
    case measure=>simp [intOf];omega
   | false=>
    have hR:R=k:=jcq.out k (by simpa using hk) Qs.out (fun x hx=>by
     have h1:=(List.getElem?_eq_some_iff.1 hx).1;have hlt:k<s.size:=by simpa using h1
     rw [BI s k hlt] at hx;obtain rfl:=Option.some.inj hx;have hb:=HB.out;rw [decide_eq_true hlt] at hb;rw [jh s k hlt];exact hb.symm)
    subst hR;have F9:=HV.out;by_cases h2:2<=R;case neg=>
     have q1:decide ((2:Int)<=(R:Int))=false:=by simp;omega
     have HE:Hid (V=false):=by show V=false;rw [F9,decide_eq_false h2];rfl
     clear F9;go_wp2;go_ret;exact ⟨by rw [HE.out];rfl,jh1 _ _⟩
    have q1:decide ((2:Int)<=(R:Int))=true:=by simp;omega
    by_cases h20:R<=20;case neg=>
     have q2:decide ((R:Int)<=(20:Int))=false:=by simp;omega
     have HE:Hid (V=false):=by show V=false;rw [F9,decide_eq_true h2,decide_eq_false h20];rfl
     clear F9;go_wp2;go_ret;exact ⟨by rw [HE.out];rfl,jh1 _ _⟩
    have q2:decide ((R:Int)<=(20:Int))=true:=by simp;omega
    by_cases hlt:R<s.size;case neg=>
     have q3:decide ((R:Int)<(s.size:Int))=false:=by simp;omega
     have HE:Hid (V=false):=by show V=false;have h0:s.data.toList[R]?=none:=List.getElem?_eq_none (by simp;omega);rw [F9,decide_eq_true h2,decide_eq_true h20,h0];simp
     clear F9;go_wp2;go_ret;exact ⟨by rw [HE.out];rfl,jh1 _ _⟩
    have q3:decide ((R:Int)<(s.size:Int))=true:=by simp;omega
    have h58:decide (s.data.toList[R]?=some 58)=((s[R].toNat:Int)==58):=by rw [BI s R hlt,Bool.eq_iff_iff];simp [<- UInt8.toNat_inj];omega
    rw [h58,decide_eq_true h2,decide_eq_true h20] at F9;have Qr:=hid F9;clear F9 h58;cases hc:((s[R].toNat:Int)==58) with
    | false=>
     rw [hc] at Qr;have HE:Hid (V=false):=Qr.out;go_wp2;go_ret;exact ⟨by rw [HE.out];rfl,jh1 _ _⟩
    | true=>
     rw [hc] at Qr;cases L with
     | false=>
      have HE:Hid (V=false):=Qr.out;go_wp2_with fail
      refine (RL.out _).mono ?_;rintro e w1 ⟨rfl,b1⟩;have HB1:=hid b1;clear b1;go_wp2;go_ret;exact ⟨by rw [HE.out];rfl,HB1.out⟩
     | true=>
      have HE:Hid (V=!H):=Qr.out;go_wp2_with fail
      refine (RL.out _).mono ?_;rintro e w1 ⟨rfl,b1⟩;have HB1:=hid b1;clear b1;go_wp2_with fail
      refine (HH.out _).mono ?_;rintro e w2 ⟨rfl,b2⟩;have HB2:=hid (aM HB1.out b2);clear b2;go_wp2;go_ret;exact ⟨by rw [HE.out];rfl,HB2.out⟩
open Go.RowKit
theorem Pg (k:Int):(k<1\/16<k)\/(1<=k/\k<=16)/\( (([1,4,5,9,10,12,14,15]:List Int).contains k=true/\([9,10,16]:List Int).contains k=false/\([9,10,14]:List Int).contains k=false/\([10,11]:List Int).contains k=false/\([6,7,8,9,10,11]:List Int).contains k=false/\(k==15)=false/\(k==13)=false) \/ (([1,4,5,9,10,12,14,15]:List Int).contains k=false/\([9,10,16]:List Int).contains k=false/\([9,10,14]:List Int).contains k=false/\([10,11]:List Int).contains k=false/\([6,7,8,9,10,11]:List Int).contains k=false/\(k==15)=false/\(k==13)=false) \/ (([1,4,5,9,10,12,14,15]:List Int).contains k=false/\([9,10,16]:List Int).contains k=false/\([9,10,14]:List Int).contains k=false/\([10,11]:List Int).contains k=false/\([6,7,8,9,10,11]:List Int).contains k=true/\(k==15)=false/\(k==13)=false) \/ (([1,4,5,9,10,12,14,15]:List Int).contains k=true/\([9,10,16]:List Int).contains k=true/\([9,10,14]:List Int).contains k=true/\([10,11]:List Int).contains k=false/\([6,7,8,9,10,11]:List Int).contains k=true/\(k==15)=false/\(k==13)=false) \/ (([1,4,5,9,10,12,14,15]:List Int).contains k=true/\([9,10,16]:List Int).contains k=true/\([9,10,14]:List Int).contains k=true/\([10,11]:List Int).contains k=true/\([6,7,8,9,10,11]:List Int).contains k=true/\(k==15)=false/\(k==13)=false) \/ (([1,4,5,9,10,12,14,15]:List Int).contains k=false/\([9,10,16]:List Int).contains k=false/\([9,10,14]:List Int).contains k=false/\([10,11]:List Int).contains k=true/\([6,7,8,9,10,11]:List Int).contains k=true/\(k==15)=false/\(k==13)=false) \/ (([1,4,5,9,10,12,14,15]:List Int).contains k=false/\([9,10,16]:List Int).contains k=false/\([9,10,14]:List Int).contains k=false/\([10,11]:List Int).contains k=false/\([6,7,8,9,10,11]:List Int).contains k=false/\(k==15)=false/\(k==13)=true) \/ (([1,4,5,9,10,12,14,15]:List Int).contains k=true/\([9,10,16]:List Int).contains k=false/\([9,10,14]:List Int).contains k=true/\([10,11]:List Int).contains k=false/\([6,7,8,9,10,11]:List Int).contains k=false/\(k==15)=false/\(k==13)=false) \/ (([1,4,5,9,10,12,14,15]:List Int).contains k=true/\([9,10,16]:List Int).contains k=false/\([9,10,14]:List Int).contains k=false/\([10,11]:List Int).contains k=false/\([6,7,8,9,10,11]:List Int).contains k=false/\(k==15)=true/\(k==13)=false) \/ (([1,4,5,9,10,12,14,15]:List Int).contains k=false/\([9,10,16]:List Int).contains k=true/\([9,10,14]:List Int).contains k=false/\([10,11]:List Int).contains k=false/\([6,7,8,9,10,11]:List Int).contains k=false/\(k==15)=false/\(k==13)=false)):=by
 rcases qN k with rfl | rfl | rfl | rfl | rfl | rfl | rfl | rfl | rfl | rfl | rfl | rfl | rfl | rfl | rfl | rfl | hk
 case inr.inr.inr.inr.inr.inr.inr.inr.inr.inr.inr.inr.inr.inr.inr.inr=>exact .inl hk
 all_goals (right;simp)
theorem rZ (w:World) (k:Int) (t d ti:ByteArray) (at_:At) (ar:List ByteArray) (ci:List Ci) (ks:List aj) (ac ap aa ai ak:Option Addr) (cc cp ca gF ck:Nat) (h:dQ (·<w.heap.size) w at_ ar ci ks (.slice ac at_.cls.length cc) (.slice ap at_.aF.length cp) (.slice aa ar.length ca) (.slice ai ci.length gF) (.slice ak ks.length ck)) : Calls Tryz.prog 187 #[.agg #[.int .i64 k,.string t,.string d,.string ti,.string at_.id,.slice ac at_.cls.length cc,.slice ap at_.aF.length cp,.slice aa ar.length ca,.slice ai ci.length gF,.slice ak ks.length ck]] w (bR (.bool (vW k t d ti at_ ar ci ks)) w):=by
 have l1:=(yY h.at_.cls).2;have l2:=(yY h.at_.aF).2;obtain ⟨-,l3,m3⟩:=yY h.args;obtain ⟨-,l4,m4⟩:=yY h.bg;obtain ⟨-,l5,m5⟩:=yY h.kids;unfold maxLen at m3 m4 m5;have AE:=hid (fun w=>uN at_ ac ap cc cp w (by omega) (by omega));clear l1 l2;have HV:Hid (vW k t d ti at_ ar ci ks=(decide (1<=k)&&decide (k<=16)&&(([1,4,5,9,10,12,14,15]:List Int).contains k||t.toList.isEmpty)&&(([9,10,16]:List Int).contains k||d.toList.isEmpty)&&(([9,10,14]:List Int).contains k||ti.toList.isEmpty) &&
 (([10,11]:List Int).contains k||at_.none)&&(([6,7,8,9,10,11]:List Int).contains k||((ks.length:Int)==0))&&((k==15)||((ar.length:Int)==0))&&((k==13)||((ci.length:Int)==0)))):=by show _=_;rw [sD,sD,sD,nE,nE,nE];rfl
 obtain ⟨V,hV⟩:∃ V,V=vW k t d ti at_ ar ci ks:=⟨_,rfl⟩
 rw [<- hV] at HV ⊢;have ZT:=Pg k;have IL1:=hid (fun (w:World)=>tL k [1,4,5,9,10,12,14,15] w 3 (by decide));have IL2:=hid (fun (w:World)=>tL k [9,10,16] w 3 (by decide));have IL3:=hid (fun (w:World)=>tL k [9,10,14] w 3 (by decide));have IL4:=hid (fun (w:World)=>tL k [10,11] w 3 (by decide));have IL5:=hid (fun (w:World)=>tL k [6,7,8,9,10,11] w 3 (by decide));generalize ([1,4,5,9,10,12,14,15]:List Int).contains k=b1 at *;generalize ([9,10,16]:List Int).contains k=b2 at *;generalize ([9,10,14]:List Int).contains k=b3 at *;generalize ([10,11]:List Int).contains k=b4 at *;generalize ([6,7,8,9,10,11]:List Int).contains k=b5 at *;generalize at_.none=bn at *
 obtain ⟨w1,hw1⟩:∃ w1,w1=w.alloc (.cells #[.int .i64 k,.string t,.string d,.string ti,.string at_.id,.slice ac at_.cls.length cc,.slice ap at_.aF.length cp,.slice aa ar.length ca,.slice ai ci.length gF,.slice ak ks.length ck] 51):=⟨_,rfl⟩;have k1:CB 51 w.heap.size [.int .i64 k,.string t,.string d,.string ti,.string at_.id,.slice ac at_.cls.length cc,.slice ap at_.aF.length cp,.slice aa ar.length ca,.slice ai ci.length gF,.slice ak ks.length ck] w1:=by rw [hw1];exact CB.new _ _ _
 have B1:Hid (Below w.heap.size w w1):=by show Below _ _ _;rw [hw1];exact (jh1 _ _).alloc (Nat.le_refl _) _
 have p0:=k1.cell 0 _ rfl;have K1:=hid k1;clear hV h k1;go_enter Tryz.func187,Tryz.ntmps187;simp only [List.append_eq,List.cons_append,List.nil_append];go_upto_region 1 with (fail)
 rw [<- hw1];clear hw1;go_wp2_with fail
 refine (IL1.out w1).mono ?_;rintro e w2 ⟨rfl,b2⟩;have K2:=hid (K1.out.below b2);have B2:=hid (aM B1.out b2);have p0:=K2.out.cell 0 _ rfl;clear b2 K1 B1;go_wp2_with fail
 refine (IL2.out w2).mono ?_;rintro e w3 ⟨rfl,b3⟩;have K3:=hid (K2.out.below b3);have B3:=hid (aM B2.out b3);have p0:=K3.out.cell 0 _ rfl;clear b3 K2 B2;go_wp2_with fail
 refine (IL3.out w3).mono ?_;rintro e w4 ⟨rfl,b4⟩;have K4:=hid (K3.out.below b4);have B4:=hid (aM B3.out b4);have p0:=K4.out.cell 0 _ rfl;clear b4 K3 B3;go_wp2_with fail
 refine (IL4.out w4).mono ?_;rintro e w5 ⟨rfl,b5⟩;have K5:=hid (K4.out.below b5);have B5:=hid (aM B4.out b5);have p0:=K5.out.cell 0 _ rfl;clear b5 K4 B4;go_wp2_with fail
 refine (IL5.out w5).mono ?_;rintro e w6 ⟨rfl,b6⟩;have K6:=hid (K5.out.below b6);have B6:=hid (aM B5.out b6);have p0:=K6.out.cell 0 _ rfl;clear b6 K5 B5;have p0:=K6.out.cell 0 _ rfl;have p1:=K6.out.cell 1 _ rfl;have p2:=K6.out.cell 2 _ rfl;have p3:=K6.out.cell 3 _ rfl;have p4:=K6.out.cell 4 _ rfl;have p5:=K6.out.cell 5 _ rfl;have p6:=K6.out.cell 6 _ rfl;have p7:=K6.out.cell 7 _ rfl;have p8:=K6.out.cell 8 _ rfl;have p9:=K6.out.cell 9 _ rfl;rcases ZT with hk | ⟨⟨hk1,hk2⟩,hpat⟩
 ·have hv:V=false:=by
   rw [HV.out];have:(decide (1<=k)&&decide (k<=16))=false:=by rw [Bool.and_eq_false_iff];simp;omega
   rw [this];rfl
  have HE:=hid hv;by_cases hk1:1<=k
  ·have q1:decide ((1:Int)<=k)=true:=by simpa using hk1
   have q2:decide (k<=(16:Int))=false:=by simp;omega
   clear hv hk;go_wp2;go_ret;exact ⟨by rw [HE.out];rfl,B6.out⟩
  ·have q1:decide ((1:Int)<=k)=false:=by simpa using hk1
   clear hv hk;go_wp2;go_ret;exact ⟨by rw [HE.out];rfl,B6.out⟩
 have q1:decide ((1:Int)<=k)=true:=by simpa using hk1
 have q2:decide (k<=(16:Int))=true:=by simpa using hk2
 rw [q1,q2] at HV;generalize jg0:(k==15)=PV at *;generalize jg1:(k==13)=q13 at *;clear hk1 hk2;rcases hpat with ⟨rfl,rfl,rfl,rfl,rfl,rfl,rfl⟩ | ⟨rfl,rfl,rfl,rfl,rfl,rfl,rfl⟩ | ⟨rfl,rfl,rfl,rfl,rfl,rfl,rfl⟩ | ⟨rfl,rfl,rfl,rfl,rfl,rfl,rfl⟩ | ⟨rfl,rfl,rfl,rfl,rfl,rfl,rfl⟩ | ⟨rfl,rfl,rfl,rfl,rfl,rfl,rfl⟩ | ⟨rfl,rfl,rfl,rfl,rfl,rfl,rfl⟩ | ⟨rfl,rfl,rfl,rfl,rfl,rfl,rfl⟩ | ⟨rfl,rfl,rfl,rfl,rfl,rfl,rfl⟩ | ⟨rfl,rfl,rfl,rfl,rfl,rfl,rfl⟩
 all_goals
  go_wp2_with (go_at_call 189;refine (AE.out _).mono ?_;rintro e w7 ⟨rfl,DF⟩;have K7:=K6.out.below DF;have p7:=K7.cell 7 _ rfl;have p8:=K7.cell 8 _ rfl;have p9:=K7.cell 9 _ rfl;have p0:=K7.cell 0 _ rfl)
  all_goals
   go_ret;refine ⟨uQ ?_,?_⟩
   ·rw [HV.out]
    (try simp only [*])
    (try simp)
    (try (simp only [<- List.length_eq_zero_iff];omega))
   ·first | exact aM B6.out DF | exact B6.out
end Go.Proofs.YtclikfjalmcoaaaGreatDoor

