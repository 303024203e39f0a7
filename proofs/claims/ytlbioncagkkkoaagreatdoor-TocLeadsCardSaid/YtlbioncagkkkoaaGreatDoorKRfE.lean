/- Contracts of publisherref04.reference, anyOf, auto. Contract of publisherref04.inlineFields. -/
import Derived.Test.YtlbioncagkkkoaaGreatDoorKRfD
import Derived.Test.YtlbioncagkkkoaaGreatDoorKChG
import Derived.BigGuard
import Derived.Deep.DeepCutAuto
import Derived.BigGuardPart
set_option maxHeartbeats 8000000
set_option maxRecDepth 100000
open Go.Lib (hid)
namespace Go.Proofs.YtlbioncagkkkoaaGreatDoor
open Go.RowKit
set_option linter.unusedVariables false
set_option linter.unusedSimpArgs false
theorem in_lit (k:Int) (ks:List Int) (w:World) (T:TypeId) (hks:ks.length<=1000) :
  Calls Tryz.prog 135 #[.int .i64 k,.slice (some ⟨w.heap.size,0,none⟩) ks.length ks.length] (w.alloc (.cells (ks.map (Value.int .i64)).toArray T)) fun e w'=>e=.returned (.bool (ks.contains k))/\Below w.heap.size w w':=by
 refine (rIn_any k ks w.heap.size ks.length _ hks (fun j x hx=>?_)).mono fun e w' h=>⟨h.1,by rw [<- h.2];exact (Below.refl _ _).alloc (Nat.le_refl _) _⟩
 have:=q0o w (ks.map (Value.int .i64)) T j (.int .i64 x) (by rw [List.getElem?_map,hx];rfl)
 have e:((⟨w.heap.size,0,none⟩:Addr).add j)=⟨w.heap.size,j,none⟩:=by unfold Addr.add;split<;>simp_all
 rwa [e] at this
theorem rReference_any (k:Int) (w:World):Calls Tryz.prog 210 #[.int .i64 k] w (RetB (.bool (refKinds.contains k)) w):=by
 have IL:=hid (in_lit k [9,16,12,14,13] w 3 (by decide))
 have HV:Hid (refKinds.contains k=([9,16,12,14,13]:List Int).contains k):=rfl
 generalize refKinds.contains k=V at *
 generalize ([9,16,12,14,13]:List Int).contains k=V2 at *
 go_enter Tryz.func210,Tryz.ntmps210
 go_wp2_with fail
 refine IL.out.mono ?_
 rintro e w1 ⟨rfl,b1⟩
 have HB:=hid b1
 clear b1 IL
 go_wp2
 go_ret
 exact ⟨by rw [HV.out];rfl,HB.out⟩
def AoRel (l:List Inl) (ks:List Int) (w:World) (vi:Value) (wr:World):Prop:=∃ k:Nat,k<=l.length/\vi=.int .i64 k/\Inl.anyL ks (l.take k)=false/\Below w.heap.size w wr
theorem brk_eq (k:Int):brkKinds.contains k=((k==2)||(k==3)):=by
 unfold brkKinds
 rw [Bool.eq_iff_iff]
 simp
theorem rAnyOf_any (n:Nat):∀ (l:List Inl) (v:Value) (le:Bool) (w:World),Inl.szL l<=n->Rd (·<w.heap.size) w (q0w l) [v] ->
  Calls Tryz.prog 170 #[v,.bool le] w (RetB (.bool (Inl.anyL (if le then brkKinds else refKinds) l)) w):=by
 induction n using Nat.strongRecOn with
 | _ n ih=>
  intro l v le w hn hrd
  obtain ⟨a,cp,hv,hs⟩:=Rd.sl_open hrd
  obtain rfl:v=.slice a l.length cp:=by simpa using hv
  have hcap:l.length<=cp:=by simpa using hs.le
  have hmx:=hs.max
  unfold maxLen at hmx
  have HR:=hid hrd
  have IH:=hid ih
  obtain ⟨ks,hks⟩:∃ ks,ks=if le then brkKinds else refKinds:=⟨_,rfl⟩
  rw [<- hks]
  have HKS:=hid hks
  have R0:Hid (AoRel l ks w (.int .i64 0) w):=⟨0,Nat.zero_le _,rfl,by rw [List.take_zero,Inl.anyL],Below.refl _ _⟩
  obtain ⟨V,hV⟩:∃ V,V=Inl.anyL ks l:=⟨_,rfl⟩
  rw [<- hV]
  have HV:=hid hV
  clear hs hv hrd ih hks hV
  go_enter Tryz.func170,Tryz.ntmps170
  go_wp2
  go_loopw [5] (fun i wr=>AoRel l ks w i wr) (fun i _=>l.length-(intOf i).toNat)
  case atStart=>exact R0.out
  case round=>
   clear R0
   obtain ⟨k,hk,rfl,hno,hbel⟩:=hrel
   have HN:=hid hno
   have HB:=hid hbel
   clear hno
   by_cases hlt:k<l.length
   ·obtain ⟨x,hx⟩:∃ x,l[k]?=some x:=⟨_,List.getElem?_eq_getElem hlt⟩
    have hsn:=Inl.anyL_snoc ks hx
    have HG:=hid (Inl.anyL_get ks hx)
    obtain ⟨kd,t,d,ti,at_,ar,ci,kids⟩:=x
    obtain ⟨a',cp',hv',hs'⟩:=Rd.sl_open (HR.out.up hbel)
    obtain ⟨rfl,rfl⟩:a'=a/\cp'=cp:=by simp at hv';exact ⟨hv'.1.symm,hv'.2.symm⟩
    obtain ⟨b,off,vc,vp,va,vi,vk,rfl,hok,hbl,hcl,hR⟩:=q1b hs' hx
    obtain ⟨c0,-,-,-,-,-,-,-,-,c9⟩:=hcl
    have hsz:=Inl.szL_get l k _ hx
    rw [Inl.sz] at hsz
    have AK:=hid (fun (w2:World) (h2:Below wr.heap.size wr w2)=>IH.out (Inl.szL kids) (by omega) kids vk le w2 (Nat.le_refl _) (hR.kids.up h2))
    rw [<- HKS.out] at AK
    obtain ⟨ak,nk,ck,rfl⟩:=Rd.slf hR.kids
    have HX:Hid ((Inl.mk kd t d ti at_ ar ci kids).anyK ks=(ks.contains kd||Inl.anyL ks kids)):=by show _=_;rw [Inl.anyK]
    have HSN:=hid hsn
    have HC9:Hid (∀ w2,Below wr.heap.size wr w2->w2.cell? ⟨b,off+k*10+9,none⟩=some (.slice ak nk ck)):=fun w2 h2=>by rw [h2.cell (p:=⟨b,off+k*10+9,none⟩) hbl];exact c9
    clear hx hR hsn hv' hs'
    cases le with
    | false=>
     obtain rfl:ks=refKinds:=HKS.out
     have RF:=hid (rReference_any kd)
     cases h1:refKinds.contains kd with
     | true=>
      rw [h1] at RF HX
      have HE:Hid (V=true):=by show V=true;rw [HV.out];exact HG.out (by rw [HX.out];rfl)
      clear h1 hbel
      go_wp2_with fail
      refine (RF.out _).mono ?_
      rintro e w1 ⟨rfl,b1⟩
      have HB1:=hid (q01 HB.out b1)
      clear b1
      go_wp2
      go_ret
      exact ⟨by rw [HE.out];rfl,HB1.out⟩
     | false=>
      rw [h1] at RF HX
      clear h1 hbel
      cases h2:Inl.anyL refKinds kids
      all_goals
       rw [h2] at AK HX
      case true=>
       have HE:Hid (V=true):=by show V=true;rw [HV.out];exact HG.out (by rw [HX.out];rfl)
       clear h2
       go_wp2_with fail
       refine (RF.out _).mono ?_
       rintro e w1 ⟨rfl,b1⟩
       have c9:=HC9.out w1 b1
       have HB1:=hid b1
       clear b1
       go_wp2_with fail
       refine (AK.out _ HB1.out).mono ?_
       rintro e w2 ⟨rfl,b2⟩
       have HB2:=hid (q01 (q01 HB.out HB1.out) b2)
       clear b2
       go_wp2
       go_ret
       exact ⟨by rw [HE.out];rfl,HB2.out⟩
      case false=>
       clear h2
       go_wp2_with fail
       refine (RF.out _).mono ?_
       rintro e w1 ⟨rfl,b1⟩
       have c9:=HC9.out w1 b1
       have HB1:=hid b1
       clear b1
       go_wp2_with fail
       refine (AK.out _ HB1.out).mono ?_
       rintro e w2 ⟨rfl,b2⟩
       have HB2:=hid (q01 (q01 HB.out HB1.out) b2)
       clear b2
       go_wp2
       go_roundw
       case rel=>exact ⟨k+1,by omega,by go_num,by rw [HSN.out,HN.out,HX.out];rfl,HB2.out⟩
       case measure=>simp [intOf];omega
    | true=>
     obtain rfl:ks=brkKinds:=HKS.out
     rw [brk_eq] at HX
     clear hbel
     cases h1:(kd==2) with
     | true=>
      rw [h1] at HX
      have HE:Hid (V=true):=by show V=true;rw [HV.out];exact HG.out (by rw [HX.out];rfl)
      go_wp2
      go_ret
      exact ⟨by rw [HE.out];rfl,HB.out⟩
     | false=>
      cases h3:(kd==3) with
      | true=>
       rw [h1,h3] at HX
       have HE:Hid (V=true):=by show V=true;rw [HV.out];exact HG.out (by rw [HX.out];rfl)
       go_wp2
       go_ret
       exact ⟨by rw [HE.out];rfl,HB.out⟩
      | false=>
       rw [h1,h3] at HX
       cases h2:Inl.anyL brkKinds kids
       all_goals
        rw [h2] at AK HX
       case true=>
        have HE:Hid (V=true):=by show V=true;rw [HV.out];exact HG.out (by rw [HX.out];rfl)
        clear h2
        go_wp2_with fail
        refine (AK.out _ (Below.refl _ _)).mono ?_
        rintro e w2 ⟨rfl,b2⟩
        have HB2:=hid (q01 HB.out b2)
        clear b2
        go_wp2
        go_ret
        exact ⟨by rw [HE.out];rfl,HB2.out⟩
       case false=>
        clear h2
        go_wp2_with fail
        refine (AK.out _ (Below.refl _ _)).mono ?_
        rintro e w2 ⟨rfl,b2⟩
        have HB2:=hid (q01 HB.out b2)
        clear b2
        go_wp2
        go_roundw
        case rel=>exact ⟨k+1,by omega,by go_num,by rw [HSN.out,HN.out,HX.out];rfl,HB2.out⟩
        case measure=>simp [intOf];omega
   ·have HE:Hid (V=false):=by
     show V=false
     rw [HV.out]
     have:=HN.out
     rwa [List.take_of_length_le (by omega)] at this
    clear hbel
    go_wp2
    go_ret
    exact ⟨by rw [HE.out];rfl,HB.out⟩
theorem rAuto_any (s:ByteArray) (w:World) (hs:s.size<=1000000000) :
  Calls Tryz.prog 250 #[.string s] w (RetB (.bool (autoS s)) w):=by
 have HV:Hid (autoS s=(decide (2<=ltrRun s)&&decide (ltrRun s<=20)&&decide (s.data.toList[ltrRun s]?=some 58)&&q0d s&&!q0r s [32,60,62])):=rfl
 have RL:=hid (fun w=>q22 s w hs)
 have HH:=hid (fun w=>rHasB_any s ⟨#[32,60,62]⟩ w hs (by decide))
 change Hid (∀ w,Calls Tryz.prog 176 #[.string s,.string ⟨#[32,60,62]⟩] w (RetB (.bool (q0r s [32,60,62])) w)) at HH
 have HRUN:Hid (∀ k,k<=s.data.toList.length->(∀ j x,j<k->s.data.toList[j]?=some x->ltrC x.toNat=true)->(∀ x,s.data.toList[k]?=some x->ltrC x.toNat=false)->ltrRun s=k):=fun k h1 h2 h3=>tw_len (fun c=>ltrC c.toNat) _ k h1 h2 h3
 generalize autoS s=V at *
 generalize ltrRun s=R at *
 generalize q0d s=L at *
 generalize q0r s [32,60,62]=H at *
 go_enter Tryz.func250,Tryz.ntmps250
 (try simp only [List.append_eq,List.cons_append,List.nil_append])
 go_wp2
 go_loop [3] (fun vi=>∃ k:Nat,k<=s.size/\vi=.int .i64 k/\∀ j x,j<k->s.data.toList[j]?=some x->ltrC x.toNat=true) (fun i=>s.size-(intOf i).toNat)
 case atStart=>exact ⟨0,Nat.zero_le _,rfl,fun j x hj=>by omega⟩
 case round=>
  obtain ⟨k,hk,rfl,hall⟩:=hrel
  have HAL:=hid hall
  clear hall
  obtain ⟨B,hB⟩:∃ B,B=(decide (k<s.size)&&ltrC (bt s k)):=⟨_,rfl⟩
  have HB:=hid hB
  clear hB
  go_upto_region 2 with (fail)
  go_cut [31] (fun s31 wx=>s31=.bool B/\w=wx)
  case first=>
   by_cases hlt:k<s.size
   ·have eb:=q16 s k hlt
    have hbl:=bt_lt s k
    have HB2:Hid (B=ltrC (bt s k)):=by show B=_;rw [HB.out,decide_eq_true hlt];rfl
    have HLT:Hid (ltrC (bt s k)=(decide (97<=bt s k/\bt s k<=122)||decide (65<=bt s k/\bt s k<=90))):=by
     show _=_
     unfold ltrC inR
     rw [Bool.eq_iff_iff]
     simp
    generalize bt s k=c at *
    rcases (by omega:(97<=c/\c<=122)\/(122<c)\/(c<65)\/(65<=c/\c<=90)\/(90<c/\c<97)) with h | h | h | h | h
    ·have q1:decide ((97:Int)<=(s[k].toNat:Int))=true:=by rw [eb];simp;omega
     have q2:decide ((s[k].toNat:Int)<=(122:Int))=true:=by rw [eb];simp;omega
     have HT:Hid (B=true):=by show B=true;rw [HB2.out,HLT.out];simp;omega
     clear eb h
     go_wp2_with fail
     go_meet
     exact ⟨by rw [HT.out],rfl⟩
    ·have q1:decide ((97:Int)<=(s[k].toNat:Int))=true:=by rw [eb];simp;omega
     have q2:decide ((s[k].toNat:Int)<=(122:Int))=false:=by rw [eb];simp;omega
     have q3:decide ((65:Int)<=(s[k].toNat:Int))=true:=by rw [eb];simp;omega
     have q4:decide ((s[k].toNat:Int)<=(90:Int))=false:=by rw [eb];simp;omega
     have HT:Hid (B=false):=by show B=false;rw [HB2.out,HLT.out];simp;omega
     clear eb h
     go_wp2_with fail
     go_meet
     exact ⟨by rw [HT.out],rfl⟩
    ·have q1:decide ((97:Int)<=(s[k].toNat:Int))=false:=by rw [eb];simp;omega
     have q3:decide ((65:Int)<=(s[k].toNat:Int))=false:=by rw [eb];simp;omega
     have HT:Hid (B=false):=by show B=false;rw [HB2.out,HLT.out];simp;omega
     clear eb h
     go_wp2_with fail
     go_meet
     exact ⟨by rw [HT.out],rfl⟩
    ·have q1:decide ((97:Int)<=(s[k].toNat:Int))=false:=by rw [eb];simp;omega
     have q3:decide ((65:Int)<=(s[k].toNat:Int))=true:=by rw [eb];simp;omega
     have q4:decide ((s[k].toNat:Int)<=(90:Int))=true:=by rw [eb];simp;omega
     have HT:Hid (B=true):=by show B=true;rw [HB2.out,HLT.out];simp;omega
     clear eb h
     go_wp2_with fail
     go_meet
     exact ⟨by rw [HT.out],rfl⟩
    ·have q1:decide ((97:Int)<=(s[k].toNat:Int))=false:=by rw [eb];simp;omega
     have q3:decide ((65:Int)<=(s[k].toNat:Int))=true:=by rw [eb];simp;omega
     have q4:decide ((s[k].toNat:Int)<=(90:Int))=false:=by rw [eb];simp;omega
     have HT:Hid (B=false):=by show B=false;rw [HB2.out,HLT.out];simp;omega
     clear eb h
     go_wp2_with fail
     go_meet
     exact ⟨by rw [HT.out],rfl⟩
   ·have HT:Hid (B=false):=by show B=false;rw [HB.out,decide_eq_false hlt];rfl
    have q1:decide ((k:Int)<(s.size:Int))=false:=by simp;omega
    go_wp2_with fail
    go_meet
    exact ⟨by rw [HT.out],rfl⟩
  case rest=>
   obtain ⟨rfl,rfl⟩:=hcut
   cases B with
   | true=>
    have hb:=HB.out
    have hlt:k<s.size:=by
     rcases Nat.lt_or_ge k s.size with h | h
     ·exact h
     ·rw [decide_eq_false (by omega)] at hb;cases hb
    have HC:Hid (ltrC (bt s k)=true):=by
     show _=true
     rw [decide_eq_true hlt] at hb
     exact hb.symm
    clear hb
    go_wp2
    go_round
    case rel=>
     refine ⟨k+1,by omega,by go_num,fun j x hj hx=>?_⟩
     rcases Nat.lt_or_ge j k with h | h
     ·exact HAL.out j x h hx
     ·have:j=k:=by omega
      subst this
      rw [q12 s j hlt] at hx
      obtain rfl:=Option.some.inj hx
      rw [q16 s j hlt];exact HC.out
    case measure=>simp [intOf];omega
   | false=>
    have hR:R=k:=HRUN.out k (by simpa using hk) HAL.out (fun x hx=>by
     have h1:=(List.getElem?_eq_some_iff.1 hx).1
     have hlt:k<s.size:=by simpa using h1
     rw [q12 s k hlt] at hx
     obtain rfl:=Option.some.inj hx
     have hb:=HB.out
     rw [decide_eq_true hlt] at hb
     rw [q16 s k hlt];exact hb.symm)
    subst hR
    have HV2:=HV.out
    by_cases h2:2<=R
    case neg=>
     have q1:decide ((2:Int)<=(R:Int))=false:=by simp;omega
     have HE:Hid (V=false):=by show V=false;rw [HV2,decide_eq_false h2];rfl
     clear HV2
     go_wp2
     go_ret
     exact ⟨by rw [HE.out];rfl,Below.refl _ _⟩
    have q1:decide ((2:Int)<=(R:Int))=true:=by simp;omega
    by_cases h20:R<=20
    case neg=>
     have q2:decide ((R:Int)<=(20:Int))=false:=by simp;omega
     have HE:Hid (V=false):=by show V=false;rw [HV2,decide_eq_true h2,decide_eq_false h20];rfl
     clear HV2
     go_wp2
     go_ret
     exact ⟨by rw [HE.out];rfl,Below.refl _ _⟩
    have q2:decide ((R:Int)<=(20:Int))=true:=by simp;omega
    by_cases hlt:R<s.size
    case neg=>
     have q3:decide ((R:Int)<(s.size:Int))=false:=by simp;omega
     have HE:Hid (V=false):=by
      show V=false
      have h0:s.data.toList[R]?=none:=List.getElem?_eq_none (by simp;omega)
      rw [HV2,decide_eq_true h2,decide_eq_true h20,h0];simp
     clear HV2
     go_wp2
     go_ret
     exact ⟨by rw [HE.out];rfl,Below.refl _ _⟩
    have q3:decide ((R:Int)<(s.size:Int))=true:=by simp;omega
    have h58:decide (s.data.toList[R]?=some 58)=((s[R].toNat:Int)==58):=by
     rw [q12 s R hlt,Bool.eq_iff_iff]
     simp [<- UInt8.toNat_inj]
     omega
    rw [h58,decide_eq_true h2,decide_eq_true h20] at HV2
    have HV3:=hid HV2
    clear HV2 h58
    cases hc:((s[R].toNat:Int)==58) with
    | false=>
     rw [hc] at HV3
     have HE:Hid (V=false):=HV3.out
     go_wp2
     go_ret
     exact ⟨by rw [HE.out];rfl,Below.refl _ _⟩
    | true=>
     rw [hc] at HV3
     cases L with
     | false=>
      have HE:Hid (V=false):=HV3.out
      go_wp2_with fail
      refine (RL.out _).mono ?_
      rintro e w1 ⟨rfl,b1⟩
      have HB1:=hid b1
      clear b1
      go_wp2
      go_ret
      exact ⟨by rw [HE.out];rfl,HB1.out⟩
     | true=>
      have HE:Hid (V=!H):=HV3.out
      go_wp2_with fail
      refine (RL.out _).mono ?_
      rintro e w1 ⟨rfl,b1⟩
      have HB1:=hid b1
      clear b1
      go_wp2_with fail
      refine (HH.out _).mono ?_
      rintro e w2 ⟨rfl,b2⟩
      have HB2:=hid (q01 HB1.out b2)
      clear b2
      go_wp2
      go_ret
      exact ⟨by rw [HE.out];rfl,HB2.out⟩
open Go.RowKit
theorem kind_pat (k:Int):(k<1\/16<k)\/(1<=k/\k<=16)/\(
  (([1,4,5,9,10,12,14,15]:List Int).contains k=true/\([9,10,16]:List Int).contains k=false/\([9,10,14]:List Int).contains k=false/\([10,11]:List Int).contains k=false/\([6,7,8,9,10,11]:List Int).contains k=false/\(k==15)=false/\(k==13)=false) \/
  (([1,4,5,9,10,12,14,15]:List Int).contains k=false/\([9,10,16]:List Int).contains k=false/\([9,10,14]:List Int).contains k=false/\([10,11]:List Int).contains k=false/\([6,7,8,9,10,11]:List Int).contains k=false/\(k==15)=false/\(k==13)=false) \/
  (([1,4,5,9,10,12,14,15]:List Int).contains k=false/\([9,10,16]:List Int).contains k=false/\([9,10,14]:List Int).contains k=false/\([10,11]:List Int).contains k=false/\([6,7,8,9,10,11]:List Int).contains k=true/\(k==15)=false/\(k==13)=false) \/
  (([1,4,5,9,10,12,14,15]:List Int).contains k=true/\([9,10,16]:List Int).contains k=true/\([9,10,14]:List Int).contains k=true/\([10,11]:List Int).contains k=false/\([6,7,8,9,10,11]:List Int).contains k=true/\(k==15)=false/\(k==13)=false) \/
  (([1,4,5,9,10,12,14,15]:List Int).contains k=true/\([9,10,16]:List Int).contains k=true/\([9,10,14]:List Int).contains k=true/\([10,11]:List Int).contains k=true/\([6,7,8,9,10,11]:List Int).contains k=true/\(k==15)=false/\(k==13)=false) \/
  (([1,4,5,9,10,12,14,15]:List Int).contains k=false/\([9,10,16]:List Int).contains k=false/\([9,10,14]:List Int).contains k=false/\([10,11]:List Int).contains k=true/\([6,7,8,9,10,11]:List Int).contains k=true/\(k==15)=false/\(k==13)=false) \/
  (([1,4,5,9,10,12,14,15]:List Int).contains k=false/\([9,10,16]:List Int).contains k=false/\([9,10,14]:List Int).contains k=false/\([10,11]:List Int).contains k=false/\([6,7,8,9,10,11]:List Int).contains k=false/\(k==15)=false/\(k==13)=true) \/
  (([1,4,5,9,10,12,14,15]:List Int).contains k=true/\([9,10,16]:List Int).contains k=false/\([9,10,14]:List Int).contains k=true/\([10,11]:List Int).contains k=false/\([6,7,8,9,10,11]:List Int).contains k=false/\(k==15)=false/\(k==13)=false) \/
  (([1,4,5,9,10,12,14,15]:List Int).contains k=true/\([9,10,16]:List Int).contains k=false/\([9,10,14]:List Int).contains k=false/\([10,11]:List Int).contains k=false/\([6,7,8,9,10,11]:List Int).contains k=false/\(k==15)=true/\(k==13)=false) \/
  (([1,4,5,9,10,12,14,15]:List Int).contains k=false/\([9,10,16]:List Int).contains k=true/\([9,10,14]:List Int).contains k=false/\([10,11]:List Int).contains k=false/\([6,7,8,9,10,11]:List Int).contains k=false/\(k==15)=false/\(k==13)=false)):=by
 rcases in_kinds k with rfl | rfl | rfl | rfl | rfl | rfl | rfl | rfl | rfl | rfl | rfl | rfl | rfl | rfl | rfl | rfl | hk
 case inr.inr.inr.inr.inr.inr.inr.inr.inr.inr.inr.inr.inr.inr.inr.inr=>exact .inl hk
 all_goals (right;simp)
theorem rInlineFields_any (w:World) (k:Int) (t d ti:ByteArray) (at_:At) (ar:List ByteArray) (ci:List Ci) (ks:List Inl) (ac ap aa ai ak:Option Addr) (cc cp ca cai ck:Nat)
  (h:InR (·<w.heap.size) w at_ ar ci ks (.slice ac at_.cls.length cc) (.slice ap at_.prs.length cp) (.slice aa ar.length ca) (.slice ai ci.length cai) (.slice ak ks.length ck)) :
  Calls Tryz.prog 246 #[.agg #[.int .i64 k,.string t,.string d,.string ti,.string at_.id,.slice ac at_.cls.length cc,.slice ap at_.prs.length cp,.slice aa ar.length ca,.slice ai ci.length cai,.slice ak ks.length ck]] w (RetB (.bool (q0b k t d ti at_ ar ci ks)) w):=by
 have l1:=(q1f h.at_.cls).2
 have l2:=(q1f h.at_.prs).2
 obtain ⟨-,l3,m3⟩:=q1f h.args
 obtain ⟨-,l4,m4⟩:=q1f h.cites
 obtain ⟨-,l5,m5⟩:=q1f h.kids
 unfold maxLen at m3 m4 m5
 have AE:=hid (fun w=>rNoAttr_any at_ ac ap cc cp w (by omega) (by omega))
 clear l1 l2
 have HV:Hid (q0b k t d ti at_ ar ci ks=(decide (1<=k)&&decide (k<=16)&&(([1,4,5,9,10,12,14,15]:List Int).contains k||t.toList.isEmpty)&&(([9,10,16]:List Int).contains k||d.toList.isEmpty)&&(([9,10,14]:List Int).contains k||ti.toList.isEmpty) &&
 (([10,11]:List Int).contains k||at_.none)&&(([6,7,8,9,10,11]:List Int).contains k||((ks.length:Int)==0))&&((k==15)||((ar.length:Int)==0))&&((k==13)||((ci.length:Int)==0)))):=by
  show _=_
  rw [q19,q19,q19,len0,len0,len0]
  rfl
 obtain ⟨V,hV⟩:∃ V,V=q0b k t d ti at_ ar ci ks:=⟨_,rfl⟩
 rw [<- hV] at HV ⊢
 have hpat0:=kind_pat k
 have IL1:=hid (fun (w:World)=>in_lit k [1,4,5,9,10,12,14,15] w 3 (by decide))
 have IL2:=hid (fun (w:World)=>in_lit k [9,10,16] w 3 (by decide))
 have IL3:=hid (fun (w:World)=>in_lit k [9,10,14] w 3 (by decide))
 have IL4:=hid (fun (w:World)=>in_lit k [10,11] w 3 (by decide))
 have IL5:=hid (fun (w:World)=>in_lit k [6,7,8,9,10,11] w 3 (by decide))
 generalize ([1,4,5,9,10,12,14,15]:List Int).contains k=b1 at *
 generalize ([9,10,16]:List Int).contains k=b2 at *
 generalize ([9,10,14]:List Int).contains k=b3 at *
 generalize ([10,11]:List Int).contains k=b4 at *
 generalize ([6,7,8,9,10,11]:List Int).contains k=b5 at *
 generalize at_.none=bn at *
 obtain ⟨w1,hw1⟩:∃ w1,w1=w.alloc (.cells #[.int .i64 k,.string t,.string d,.string ti,.string at_.id,.slice ac at_.cls.length cc,.slice ap at_.prs.length cp,.slice aa ar.length ca,.slice ai ci.length cai,.slice ak ks.length ck] 47):=⟨_,rfl⟩
 have k1:CB 47 w.heap.size [.int .i64 k,.string t,.string d,.string ti,.string at_.id,.slice ac at_.cls.length cc,.slice ap at_.prs.length cp,.slice aa ar.length ca,.slice ai ci.length cai,.slice ak ks.length ck] w1:=by rw [hw1];exact CB.new _ _ _
 have B1:Hid (Below w.heap.size w w1):=by show Below _ _ _;rw [hw1];exact (Below.refl _ _).alloc (Nat.le_refl _) _
 have p0:=k1.cell 0 _ rfl
 have K1:=hid k1
 clear hV h k1
 go_enter Tryz.func246,Tryz.ntmps246
 simp only [List.append_eq,List.cons_append,List.nil_append]
 go_upto_region 1 with (fail)
 rw [<- hw1]
 clear hw1
 go_wp2_with fail
 refine (IL1.out w1).mono ?_
 rintro e w2 ⟨rfl,b2⟩
 have K2:=hid (K1.out.below b2)
 have B2:=hid (q01 B1.out b2)
 have p0:=K2.out.cell 0 _ rfl
 clear b2 K1 B1
 go_wp2_with fail
 refine (IL2.out w2).mono ?_
 rintro e w3 ⟨rfl,b3⟩
 have K3:=hid (K2.out.below b3)
 have B3:=hid (q01 B2.out b3)
 have p0:=K3.out.cell 0 _ rfl
 clear b3 K2 B2
 go_wp2_with fail
 refine (IL3.out w3).mono ?_
 rintro e w4 ⟨rfl,b4⟩
 have K4:=hid (K3.out.below b4)
 have B4:=hid (q01 B3.out b4)
 have p0:=K4.out.cell 0 _ rfl
 clear b4 K3 B3
 go_wp2_with fail
 refine (IL4.out w4).mono ?_
 rintro e w5 ⟨rfl,b5⟩
 have K5:=hid (K4.out.below b5)
 have B5:=hid (q01 B4.out b5)
 have p0:=K5.out.cell 0 _ rfl
 clear b5 K4 B4
 go_wp2_with fail
 refine (IL5.out w5).mono ?_
 rintro e w6 ⟨rfl,b6⟩
 have K6:=hid (K5.out.below b6)
 have B6:=hid (q01 B5.out b6)
 have p0:=K6.out.cell 0 _ rfl
 clear b6 K5 B5
 have p0:=K6.out.cell 0 _ rfl
 have p1:=K6.out.cell 1 _ rfl
 have p2:=K6.out.cell 2 _ rfl
 have p3:=K6.out.cell 3 _ rfl
 have p4:=K6.out.cell 4 _ rfl
 have p5:=K6.out.cell 5 _ rfl
 have p6:=K6.out.cell 6 _ rfl
 have p7:=K6.out.cell 7 _ rfl
 have p8:=K6.out.cell 8 _ rfl
 have p9:=K6.out.cell 9 _ rfl
 rcases hpat0 with hk | ⟨⟨hk1,hk2⟩,hpat⟩
 ·have hv:V=false:=by
   rw [HV.out]
   have:(decide (1<=k)&&decide (k<=16))=false:=by rw [Bool.and_eq_false_iff];simp;omega
   rw [this];rfl
  have HE:=hid hv
  by_cases hk1:1<=k
  ·have q1:decide ((1:Int)<=k)=true:=by simpa using hk1
   have q2:decide (k<=(16:Int))=false:=by simp;omega
   clear hv hk
   go_wp2
   go_ret
   exact ⟨by rw [HE.out];rfl,B6.out⟩
  ·have q1:decide ((1:Int)<=k)=false:=by simpa using hk1
   clear hv hk
   go_wp2
   go_ret
   exact ⟨by rw [HE.out];rfl,B6.out⟩
 have q1:decide ((1:Int)<=k)=true:=by simpa using hk1
 have q2:decide (k<=(16:Int))=true:=by simpa using hk2
 rw [q1,q2] at HV
 generalize hq15:(k==15)=q15 at *
 generalize hq13:(k==13)=q13 at *
 clear hk1 hk2
 rcases hpat with ⟨rfl,rfl,rfl,rfl,rfl,rfl,rfl⟩ | ⟨rfl,rfl,rfl,rfl,rfl,rfl,rfl⟩ | ⟨rfl,rfl,rfl,rfl,rfl,rfl,rfl⟩ | ⟨rfl,rfl,rfl,rfl,rfl,rfl,rfl⟩ | ⟨rfl,rfl,rfl,rfl,rfl,rfl,rfl⟩ | ⟨rfl,rfl,rfl,rfl,rfl,rfl,rfl⟩ | ⟨rfl,rfl,rfl,rfl,rfl,rfl,rfl⟩ | ⟨rfl,rfl,rfl,rfl,rfl,rfl,rfl⟩ | ⟨rfl,rfl,rfl,rfl,rfl,rfl,rfl⟩ | ⟨rfl,rfl,rfl,rfl,rfl,rfl,rfl⟩
 all_goals
  go_wp2_with (go_at_call 136;refine (AE.out _).mono ?_;rintro e w7 ⟨rfl,hb7⟩;have K7:=K6.out.below hb7;have p7:=K7.cell 7 _ rfl;have p8:=K7.cell 8 _ rfl;have p9:=K7.cell 9 _ rfl;have p0:=K7.cell 0 _ rfl)
  all_goals
   go_ret
   refine ⟨q0h ?_,?_⟩
   ·rw [HV.out]
    (try simp only [*])
    (try simp)
    (try (simp only [<- List.length_eq_zero_iff];omega))
   ·first | exact q01 B6.out hb7 | exact B6.out
end Go.Proofs.YtlbioncagkkkoaaGreatDoor
