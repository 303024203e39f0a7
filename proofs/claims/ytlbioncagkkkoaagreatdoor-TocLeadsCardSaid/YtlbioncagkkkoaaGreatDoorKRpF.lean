/- Contracts of publisherref04.ending, closes, body, place, blockFields, table, written, itself. Contracts of publisherref04.table, written, itself. Contracts of publisherref04.blocks, Blocks, Check. -/
import Derived.Test.YtlbioncagkkkoaaGreatDoorKRpC
import Derived.Test.YtlbioncagkkkoaaGreatDoorKRfJ
import Derived.Test.YtlbioncagkkkoaaGreatDoorKPaJ
import Derived.Test.YtlbioncagkkkoaaGreatDoorKChW
set_option maxHeartbeats 8000000
set_option maxRecDepth 100000
open Go.Lib (hid)
namespace Go.Proofs.YtlbioncagkkkoaaGreatDoor
open Go.RowKit
set_option linter.unusedVariables false
set_option linter.unusedSimpArgs false
theorem all_sp (l:List UInt8):l.all isSp=(q0t l).isEmpty:=by
 unfold q0t
 induction l with
 | nil=>rfl
 | cons c l ih=>
  rw [List.all_cons]
  cases h:isSp c with
  | true=>rw [List.dropWhile_cons_of_pos h,Bool.true_and];exact ih
  | false=>rw [List.dropWhile_cons_of_neg (by rw [h];decide)];rfl
theorem skip_stop (s:ByteArray) (k:Nat) (h:s.size<=k\/∃ h:k<s.size,s[k]≠32):q0t (frm s k)=frm s k/\(frm s k).takeWhile isSp=[]:=by
 rcases h with h | ⟨h,hn⟩
 ·rw [frm_end s k h];exact ⟨rfl,rfl⟩
 ·rw [q1l s k h]
  have:isSp s[k]=false:=by unfold isSp;simp [hn]
  unfold q0t
  exact ⟨List.dropWhile_cons_of_neg (by rw [this];decide),List.takeWhile_cons_of_neg (by rw [this];decide)⟩
theorem skip_go (s:ByteArray) (k:Nat) (h:k<s.size) (hn:s[k]=32):q0t (frm s (k+1))=q0t (frm s k)/\((frm s k).takeWhile isSp).length=1+((frm s (k+1)).takeWhile isSp).length:=by
 rw [q1l s k h]
 have:isSp s[k]=true:=by rw [hn];rfl
 unfold q0t
 rw [List.dropWhile_cons_of_pos this,List.takeWhile_cons_of_pos this,List.length_cons]
 exact ⟨rfl,by omega⟩
theorem take2 (s:ByteArray) (k:Nat):(s.extract k (k+2)).data.toList=(frm s k).take 2:=by
 rw [ByteArray.data_extract,Array.toList_extract]
 unfold frm
 rw [List.extract_eq_take_drop,Nat.add_sub_cancel_left]
theorem dollars (s:ByteArray) (k:Nat):((s.extract k (k+2)).toList==[36,36])=decide ((frm s k).take 2=[36,36]):=by
 rw [Lib.toList_data,take2,Bool.eq_iff_iff,beq_iff_eq,decide_eq_true_eq]
theorem frm_drop (s:ByteArray) (k n:Nat):(frm s k).drop n=frm s (k+n):=by unfold frm;rw [List.drop_drop]
theorem frm_nil (s:ByteArray) (k:Nat) (h:k<=s.size):(frm s k).isEmpty=decide (k=s.size):=by
 have:=frm_len s k
 cases hf:frm s k with
 | nil=>rw [hf] at this;simp at this ⊢;omega
 | cons c l=>rw [hf] at this;simp at this ⊢;omega
theorem rEnding_any (s:ByteArray) (w:World) (hs:s.size<=100000) :
  Calls Tryz.prog 172 #[.string s] w (RetB (.bool (endsL s.data.toList)) w):=by
 have HE:Hid (endsL (frm s 0)=(decide (((frm s 0).takeWhile isSp).length<=3)&&decide ((q0t (frm s 0)).take 2=[36,36])&&((q0t ((q0t (frm s 0)).drop 2)).isEmpty||closeR (q0t ((q0t (frm s 0)).drop 2))))):=rfl
 have h00:frm s 0=s.data.toList:=rfl
 rw [<- h00]
 obtain ⟨V,hV⟩:∃ V,V=endsL (frm s 0):=⟨_,rfl⟩
 rw [<- hV] at HE ⊢
 have R0:Hid (∃ k:Nat,k<=s.size/\Value.int .i64 0=.int .i64 k/\q0t (frm s k)=q0t (frm s 0)/\((frm s 0).takeWhile isSp).length=k+((frm s k).takeWhile isSp).length):=⟨0,Nat.zero_le _,rfl,rfl,by omega⟩
 clear hV h00
 go_enter Tryz.func172,Tryz.ntmps172
 (try simp only [List.append_eq,List.cons_append,List.nil_append])
 go_wp2
 go_loop [3] (fun vi=>∃ k:Nat,k<=s.size/\vi=.int .i64 k/\q0t (frm s k)=q0t (frm s 0)/\((frm s 0).takeWhile isSp).length=k+((frm s k).takeWhile isSp).length) (fun i=>s.size-(intOf i).toNat)
 case atStart=>exact R0.out
 case round=>
  clear R0
  obtain ⟨k,hk,rfl,hsk,hln⟩:=hrel
  by_cases hgo:∃ h:k<s.size,s[k]=32
  ·obtain ⟨hlt,h32⟩:=hgo
   have q1:((s[k].toNat:Int)==32)=true:=by rw [h32];rfl
   have g1:=skip_go s k hlt h32
   have HSK:Hid (q0t (frm s (k+1))=q0t (frm s 0)):=g1.1.trans hsk
   have HLN:Hid (((frm s 0).takeWhile isSp).length=k+1+((frm s (k+1)).takeWhile isSp).length):=by have:=g1.2;show _=_;omega
   clear hsk hln h32 g1
   go_wp2
   go_round
   case rel=>exact ⟨k+1,by omega,by go_num,HSK.out,HLN.out⟩
   case measure=>simp [intOf];omega
  have hstop:s.size<=k\/∃ h:k<s.size,s[k]≠32:=by
   rcases Nat.lt_or_ge k s.size with h | h
   ·exact .inr ⟨h,fun e=>hgo ⟨h,e⟩⟩
   ·exact .inl h
  obtain ⟨g1,g2⟩:=skip_stop s k hstop
  have hF:q0t (frm s 0)=frm s k:=by rw [<- hsk,g1]
  have hL:((frm s 0).takeWhile isSp).length=k:=by rw [hln,g2];rfl
  have HE2:Hid (V=(decide (k<=3)&&decide ((frm s k).take 2=[36,36])&&((q0t (frm s (k+2))).isEmpty||closeR (q0t (frm s (k+2)))))):=by
   show V=_
   rw [HE.out,hF,hL,frm_drop]
  clear hsk hln g1 g2 hF hL HE hgo
  have qs:s.size<=k\/∃ h:k<s.size,((s[k].toNat:Int)==32)=false:=by
   rcases hstop with h | ⟨h,hn⟩
   ·exact .inl h
   ·right
    refine ⟨h,?_⟩
    rw [beq_eq_false_iff_ne];intro e;exact hn (by rw [<- UInt8.toNat_inj];show _=32;omega)
  clear hstop
  by_cases hbad:3<k\/s.size<k+2
  ·have HV:Hid (V=false):=by
    show V=false
    rw [HE2.out]
    rcases hbad with h | h
    ·rw [decide_eq_false (show ¬ k<=3 by omega)];rfl
    ·have h2:(frm s k).take 2≠[36,36]:=by
      intro e
      have:=congrArg List.length e
      rw [List.length_take,frm_len] at this
      simp at this
      omega
     rw [decide_eq_false h2,Bool.and_false];rfl
   have q34:(decide ((3:Int)<(k:Int))=true/\decide (3<k)=true)\/(decide ((3:Int)<(k:Int))=false/\decide (3<k)=false/\decide ((s.size:Int)<(k:Int)+2)=true/\decide (s.size<k+2)=true):=by
    by_cases h:3<k
    ·left;exact ⟨by simp;omega,by simp;omega⟩
    ·right;exact ⟨by simp;omega,by simp;omega,by simp;omega,by simp;omega⟩
   clear HE2 hbad
   rcases qs with q1 | ⟨hlt,q2⟩<;>rcases q34 with ⟨q3,q3n⟩ | ⟨q3,q3n,q4,q4n⟩
   all_goals
    go_wp2
    go_ret
    exact ⟨by rw [HV.out];rfl,Below.refl _ _⟩
  have q3:decide ((3:Int)<(k:Int))=false:=by simp;omega
  have q4:decide ((s.size:Int)<(k:Int)+2)=false:=by simp;omega
  have q3n:decide (3<k)=false:=by simp;omega
  have q4n:decide (s.size<k+2)=false:=by simp;omega
  have hk3:k<=3:=by omega
  have hk2:k+2<=s.size:=by omega
  have hlt:k<s.size:=by omega
  have hD:=dollars s k
  have q5:((s[k].toNat:Int)==32)=false:=by
   rcases qs with q1 | ⟨_,q2⟩
   ·omega
   ·exact q2
  clear qs hbad
  by_cases h36:(frm s k).take 2=[36,36]
  case neg=>
   have HV:Hid (V=false):=by show V=false;rw [HE2.out,decide_eq_false h36,Bool.and_false];rfl
   rw [decide_eq_false h36] at hD
   clear h36 HE2
   go_wp2
   go_ret
   exact ⟨by rw [HV.out];rfl,Below.refl _ _⟩
  rw [decide_eq_true h36] at hD
  have HE3:Hid (V=((q0t (frm s (k+2))).isEmpty||closeR (q0t (frm s (k+2))))):=by
   show V=_
   rw [HE2.out,decide_eq_true h36,decide_eq_true hk3];rfl
  have R1:Hid (∃ q:Nat,k+2<=q/\q<=s.size/\Value.int .i64 ((k:Int)+2)=.int .i64 q/\q0t (frm s q)=q0t (frm s (k+2))):=⟨k+2,Nat.le_refl _,hk2,by go_num,rfl⟩
  clear h36 HE2
  go_wp2
  go_loop [3] (fun vi=>∃ q:Nat,k+2<=q/\q<=s.size/\vi=.int .i64 q/\q0t (frm s q)=q0t (frm s (k+2))) (fun i=>s.size-(intOf i).toNat)
  case atStart=>exact R1.out
  case round=>
   clear R1 hD q3 q4 q3n q4n q5
   obtain ⟨q,hkq,hq,rfl,hsk⟩:=hrel
   by_cases hgo:∃ h:q<s.size,s[q]=32
   ·obtain ⟨hlt2,h32⟩:=hgo
    have q1:((s[q].toNat:Int)==32)=true:=by rw [h32];rfl
    have HSK:Hid (q0t (frm s (q+1))=q0t (frm s (k+2))):=(skip_go s q hlt2 h32).1.trans hsk
    clear hsk h32
    go_wp2
    go_round
    case rel=>exact ⟨q+1,by omega,by omega,by go_num,HSK.out⟩
    case measure=>simp [intOf];omega
   have hstop:s.size<=q\/∃ h:q<s.size,s[q]≠32:=by
    rcases Nat.lt_or_ge q s.size with h | h
    ·exact .inr ⟨h,fun e=>hgo ⟨h,e⟩⟩
    ·exact .inl h
   have hF:q0t (frm s (k+2))=frm s q:=by rw [<- hsk,(skip_stop s q hstop).1]
   have HE4:Hid (V=((frm s q).isEmpty||closeR (frm s q))):=by show V=_;rw [HE3.out,hF]
   clear hsk hF HE3 hgo
   rcases hstop with hge | ⟨hlt2,hn⟩
   ·have hqe:q=s.size:=by omega
    have HV:Hid (V=true):=by show V=_;rw [HE4.out,frm_end s q hge];rfl
    have e1:((q:Int)==(s.size:Int))=true:=by rw [beq_iff_eq];omega
    clear HE4 hqe
    go_wp2
    go_ret
    exact ⟨by rw [HV.out];rfl,Below.refl _ _⟩
   have e1:((q:Int)==(s.size:Int))=false:=by rw [beq_eq_false_iff_ne];omega
   have q1:((s[q].toNat:Int)==32)=false:=by
    rw [beq_eq_false_iff_ne];intro e;exact hn (by rw [<- UInt8.toNat_inj];show _=32;omega)
   have HE5:Hid (V=match parseL (frm s q) with
    | none=>false
    | some (_,r)=>r.all isSp):=by
    show V=_
    rw [HE4.out,q1l s q hlt2];rfl
   have PA:=hid (rParse_any s q w hs hq)
   clear HE4 hn
   go_wp2_with fail
   refine PA.out.mono ?_
   rintro e w1 ⟨x,a1,n1,c1,a2,n2,c2,t,m,rfl,hb1,hres⟩
   have HB1:=hid hb1
   have HRES:=hid hres
   have HBF:=hid (hb1.alloc hb1.size (.cells #[.string x,.slice a1 n1 c1,.slice a2 n2 c2] 44))
   clear hb1 hres PA
   by_cases hm:m=0
   case neg=>
    have e5:(m != 0)=true:=by rw [bne_iff_ne];exact hm
    have HV:Hid (V=false):=by
     show V=_
     rcases HRES.out with ⟨h,_⟩ | ⟨_,h⟩
     ·exact absurd h hm
     ·rw [HE5.out,h]
    clear HRES HE5
    go_wp2
    go_ret
    exact ⟨by rw [HV.out];rfl,HBF.out⟩
   subst hm
   obtain ⟨a',z,hto,rfl,HP⟩:∃ (a':At) (z:Nat),z<=s.size/\t=z/\Hid (parseL (frm s q)=some (a',frm s z)):=by
    rcases HRES.out with ⟨_,h⟩ | ⟨h,_⟩
    ·exact h
    ·exact absurd rfl h
   have HE6:Hid (V=(q0t (frm s z)).isEmpty):=by show V=_;rw [HE5.out,HP.out];exact all_sp _
   have R2:Hid (∃ r:Nat,r<=s.size/\Value.int .i64 (z:Int)=.int .i64 r/\q0t (frm s r)=q0t (frm s z)):=⟨z,hto,rfl,rfl⟩
   clear HRES HE5 HP
   go_wp2
   obtain ⟨W,hW⟩:∃ W,W=w1.alloc (.cells #[.string x,.slice a1 n1 c1,.slice a2 n2 c2] 44):=⟨_,rfl⟩
   rw [<- hW] at HBF ⊢
   clear hW
   go_loop [5] (fun vi=>∃ r:Nat,r<=s.size/\vi=.int .i64 r/\q0t (frm s r)=q0t (frm s z)) (fun i=>s.size-(intOf i).toNat)
   case atStart=>exact R2.out
   case round=>
    clear R2
    obtain ⟨r,hr,rfl,hsk⟩:=hrel
    by_cases hgo:∃ h:r<s.size,s[r]=32
    ·obtain ⟨hlt3,h32⟩:=hgo
     have q2:((s[r].toNat:Int)==32)=true:=by rw [h32];rfl
     have HSK:Hid (q0t (frm s (r+1))=q0t (frm s z)):=(skip_go s r hlt3 h32).1.trans hsk
     clear hsk h32
     go_wp2
     go_round
     case rel=>exact ⟨r+1,by omega,by go_num,HSK.out⟩
     case measure=>simp [intOf];omega
    have hstop:s.size<=r\/∃ h:r<s.size,s[r]≠32:=by
     rcases Nat.lt_or_ge r s.size with h | h
     ·exact .inr ⟨h,fun e=>hgo ⟨h,e⟩⟩
     ·exact .inl h
    have HV:Hid (V=decide (r=s.size)):=by show V=_;rw [HE6.out,<- hsk,(skip_stop s r hstop).1,frm_nil s r hr]
    clear hsk HE6 hgo
    rcases hstop with hge | ⟨hlt3,hn⟩
    ·go_wp2
     go_ret
     refine ⟨q0h ?_,HBF.out⟩
     rw [HV.out,Bool.eq_iff_iff];simp;omega
    ·have q2:((s[r].toNat:Int)==32)=false:=by
      rw [beq_eq_false_iff_ne];intro e;exact hn (by rw [<- UInt8.toNat_inj];show _=32;omega)
     clear hn
     go_wp2
     go_ret
     refine ⟨q0h ?_,HBF.out⟩
     rw [HV.out,Bool.eq_iff_iff];simp;omega
def ClRel (s:ByteArray) (V:Bool) (w:World) (vf vi:Value) (wr:World):Prop:=
 ∃ i f:Nat,f<=i/\i<=s.size/\vf=.int .i64 f/\vi=.int .i64 i/\((linesG (s.extract f i).data.toList (frm s i)).any endsL)=V/\Below w.heap.size w wr
theorem ext_nil (s:ByteArray) (i:Nat):(s.extract i i).data.toList=[]:=by
 rw [ByteArray.data_extract,Array.toList_extract,List.extract_eq_take_drop];simp
theorem ext_snoc (s:ByteArray) (f i:Nat) (hf:f<=i) (h:i<s.size):(s.extract f (i+1)).data.toList=(s.extract f i).data.toList++[s[i]]:=by
 rw [ByteArray.data_extract,Array.toList_extract,ByteArray.data_extract,Array.toList_extract,List.extract_eq_take_drop,List.extract_eq_take_drop]
 have h1:i<s.data.toList.length:=by simpa using h
 have e:i+1-f=(i-f)+1:=by omega
 rw [e,List.take_add_one,List.getElem?_drop]
 have e2:f+(i-f)=i:=by omega
 rw [e2,List.getElem?_eq_getElem h1]
 rfl
theorem rCloses_any (s:ByteArray) (w:World) (hs:s.size<=100000) :
  Calls Tryz.prog 139 #[.string s] w (RetB (.bool (q0i s)) w):=by
 obtain ⟨V,hV⟩:∃ V,V=q0i s:=⟨_,rfl⟩
 rw [<- hV]
 have R0:Hid (ClRel s V w (.int .i64 0) (.int .i64 0) w):=by
  refine ⟨0,0,Nat.le_refl _,Nat.zero_le _,rfl,rfl,?_,Below.refl _ _⟩
  rw [ext_nil,hV]
  rfl
 clear hV
 go_enter Tryz.func139,Tryz.ntmps139
 go_wp2
 go_loopw [3,4] (fun vf vi wr=>ClRel s V w vf vi wr) (fun _ i _=>s.size-(intOf i).toNat)
 case atStart=>exact R0.out
 case round=>
  clear R0
  obtain ⟨i,f,hf,hi,rfl,rfl,hv,hbel⟩:=hrel
  have HB:=hid hbel
  have HV:=hid hv
  clear hv hbel
  by_cases hlt:i<s.size
  ·have hcn:=q1l s i hlt
   by_cases h10:s[i]=10
   ·have q1:((s[i].toNat:Int)==10)=true:=by rw [h10];rfl
    have EN:=hid (rEnding_any (s.extract f i) wr (by rw [ByteArray.size_extract];omega))
    have HV2:Hid ((endsL (s.extract f i).data.toList||(linesG [] (frm s (i+1))).any endsL)=V):=by
     show _=V
     rw [<- HV.out,hcn,linesG,if_pos h10,List.any_cons]
    clear hcn h10 HV
    cases hen:endsL (s.extract f i).data.toList with
    | true=>
     rw [hen] at EN
     have HV3:Hid (V=true):=by show V=_;rw [<- HV2.out,hen];rfl
     clear hen HV2
     go_wp2_with fail
     refine EN.out.mono ?_
     rintro e w1 ⟨rfl,hb1⟩
     have HB1:=hid (q01 HB.out hb1)
     clear hb1
     go_wp2
     go_ret
     exact ⟨by rw [HV3.out];rfl,HB1.out⟩
    | false=>
     rw [hen] at EN
     have HV3:Hid ((linesG (s.extract (i+1) (i+1)).data.toList (frm s (i+1))).any endsL=V):=by show _=V;rw [<- HV2.out,hen,ext_nil];rfl
     clear hen HV2
     go_wp2_with fail
     refine EN.out.mono ?_
     rintro e w1 ⟨rfl,hb1⟩
     have HB1:=hid (q01 HB.out hb1)
     clear hb1
     go_wp2
     go_roundw
     case rel=>exact ⟨i+1,i+1,Nat.le_refl _,hlt,by go_num,by go_num,HV3.out,HB1.out⟩
     case measure=>simp [intOf];omega
   ·have q1:((s[i].toNat:Int)==10)=false:=by
     rw [beq_eq_false_iff_ne];intro e;exact h10 (by rw [<- UInt8.toNat_inj];show _=10;omega)
    have HV2:Hid ((linesG (s.extract f (i+1)).data.toList (frm s (i+1))).any endsL=V):=by
     show _=V
     rw [<- HV.out,hcn,linesG,if_neg h10,ext_snoc s f i hf hlt]
    clear hcn h10 HV
    go_wp2
    go_roundw
    case rel=>exact ⟨i+1,f,by omega,hlt,rfl,by go_num,HV2.out,HB.out⟩
    case measure=>simp [intOf];omega
  ·have HV2:Hid (V=false):=by show V=_;rw [<- HV.out,frm_end s i (by omega)];rfl
   clear HV
   go_wp2
   go_ret
   exact ⟨by rw [HV2.out];rfl,HB.out⟩
theorem rBody_any (s:ByteArray) (w:World) (hs:s.size<=1000000000) :
  Calls Tryz.prog 138 #[.string s] w (RetB (.bool (bodyS s)) w):=by
 rcases emp_part s with rfl | ⟨hne,hp,hie,hes⟩
 ·go_enter Tryz.func138,Tryz.ntmps138
  go_wp2
  go_ret
  exact ⟨rfl,Below.refl _ _⟩
 ·have hv:bodyS s=(q29 s&&decide (bt s (s.size-1)=10)):=by
   unfold bodyS;rw [hes,last_bt s 10 hp];rfl
  rw [hv]
  have e1:=q16 s (s.size-1) (by omega)
  have VA:=hid (rValid_any s w hs)
  generalize bt s (s.size-1)=b1 at *
  generalize q29 s=V at *
  have hsub:((s.size:Int)-1).toNat=s.size-1:=by omega
  clear hv hes
  cases V
  all_goals
   go_enter Tryz.func138,Tryz.ntmps138
   go_wp2_with fail
   refine VA.out.mono ?_
   rintro e w1 ⟨rfl,hb1⟩
   have HB1:=hid hb1
   clear hb1
   go_wp2
   all_goals
    go_ret
    refine ⟨q0h ?_,HB1.out⟩
    (try simp only [beq_iff_eq,beq_eq_false_iff_ne,ne_eq,bne_iff_ne,bne_eq_false_iff_eq] at *)
    (try rw [Bool.eq_iff_iff])
    (try simp)
    (try omega)
theorem rPlace_any (k par:Int) (w:World):Calls Tryz.prog 107 #[.int .i64 k,.int .i64 par] w fun e w'=>e=.returned (.bool (placeB k par))/\w=w':=by
 obtain ⟨V,hV⟩:∃ V,V=placeB k par:=⟨_,rfl⟩
 rw [<- hV]
 have HV:=hid hV
 clear hV
 go_enter Tryz.func107,Tryz.ntmps107
 go_wp2
 all_goals
  go_ret
  refine ⟨q0h ?_,rfl⟩
  rw [HV.out]
  unfold placeB
  simp only [beq_iff_eq,beq_eq_false_iff_ne,ne_eq,bne_iff_ne,bne_eq_false_iff_eq] at *
  (repeat' split)<;>first | omega | (rw [Bool.eq_iff_iff];simp;done) | (simp;omega) | (simp [*];done) | (rw [Bool.eq_iff_iff];simp;omega)
theorem blk_pat (k:Int):(k<1\/15<k)\/(1<=k/\k<=15)/\(
  (([2,8]:List Int).contains k=false/\([3,10,13,14,15]:List Int).contains k=false/\([3,4]:List Int).contains k=false/\([2,4,13]:List Int).contains k=false/\([1,2,12]:List Int).contains k=true/\([6,7,8,9,10,11,13,14]:List Int).contains k=false/\(k==15)=false) \/
  (([2,8]:List Int).contains k=true/\([3,10,13,14,15]:List Int).contains k=false/\([3,4]:List Int).contains k=false/\([2,4,13]:List Int).contains k=true/\([1,2,12]:List Int).contains k=true/\([6,7,8,9,10,11,13,14]:List Int).contains k=false/\(k==15)=false) \/
  (([2,8]:List Int).contains k=false/\([3,10,13,14,15]:List Int).contains k=true/\([3,4]:List Int).contains k=true/\([2,4,13]:List Int).contains k=false/\([1,2,12]:List Int).contains k=false/\([6,7,8,9,10,11,13,14]:List Int).contains k=false/\(k==15)=false) \/
  (([2,8]:List Int).contains k=false/\([3,10,13,14,15]:List Int).contains k=false/\([3,4]:List Int).contains k=true/\([2,4,13]:List Int).contains k=true/\([1,2,12]:List Int).contains k=false/\([6,7,8,9,10,11,13,14]:List Int).contains k=false/\(k==15)=false) \/
  (([2,8]:List Int).contains k=false/\([3,10,13,14,15]:List Int).contains k=false/\([3,4]:List Int).contains k=false/\([2,4,13]:List Int).contains k=false/\([1,2,12]:List Int).contains k=false/\([6,7,8,9,10,11,13,14]:List Int).contains k=false/\(k==15)=false) \/
  (([2,8]:List Int).contains k=false/\([3,10,13,14,15]:List Int).contains k=false/\([3,4]:List Int).contains k=false/\([2,4,13]:List Int).contains k=false/\([1,2,12]:List Int).contains k=false/\([6,7,8,9,10,11,13,14]:List Int).contains k=true/\(k==15)=false) \/
  (([2,8]:List Int).contains k=true/\([3,10,13,14,15]:List Int).contains k=false/\([3,4]:List Int).contains k=false/\([2,4,13]:List Int).contains k=false/\([1,2,12]:List Int).contains k=false/\([6,7,8,9,10,11,13,14]:List Int).contains k=true/\(k==15)=false) \/
  (([2,8]:List Int).contains k=false/\([3,10,13,14,15]:List Int).contains k=true/\([3,4]:List Int).contains k=false/\([2,4,13]:List Int).contains k=false/\([1,2,12]:List Int).contains k=false/\([6,7,8,9,10,11,13,14]:List Int).contains k=true/\(k==15)=false) \/
  (([2,8]:List Int).contains k=false/\([3,10,13,14,15]:List Int).contains k=true/\([3,4]:List Int).contains k=false/\([2,4,13]:List Int).contains k=true/\([1,2,12]:List Int).contains k=false/\([6,7,8,9,10,11,13,14]:List Int).contains k=true/\(k==15)=false) \/
  (([2,8]:List Int).contains k=false/\([3,10,13,14,15]:List Int).contains k=true/\([3,4]:List Int).contains k=false/\([2,4,13]:List Int).contains k=false/\([1,2,12]:List Int).contains k=false/\([6,7,8,9,10,11,13,14]:List Int).contains k=false/\(k==15)=true)):=by
 rcases bl_kinds k with rfl | rfl | rfl | rfl | rfl | rfl | rfl | rfl | rfl | rfl | rfl | rfl | rfl | rfl | rfl | hk
 case inr.inr.inr.inr.inr.inr.inr.inr.inr.inr.inr.inr.inr.inr.inr=>exact .inl hk
 all_goals (right;simp)
theorem rBlockFields_any (w:World) (k lv:Int) (i t d ti:ByteArray) (at_:At) (li:List Inl) (ks:List Blk) (ac ap al ak:Option Addr) (cc cp cl ck:Nat)
  (h:BlR (·<w.heap.size) w at_ li ks (.slice ac at_.cls.length cc) (.slice ap at_.prs.length cp) (.slice al li.length cl) (.slice ak ks.length ck)) :
  Calls Tryz.prog 106 #[.agg #[.int .i64 k,.int .i64 lv,.string i,.string t,.string d,.string ti,.string at_.id,.slice ac at_.cls.length cc,.slice ap at_.prs.length cp,.slice al li.length cl,.slice ak ks.length ck]] w (RetB (.bool (q0q k lv i t d ti at_ li ks)) w):=by
 have l1:=(q1f h.at_.cls).2
 have l2:=(q1f h.at_.prs).2
 obtain ⟨-,l4,m4⟩:=q1f h.line
 obtain ⟨-,l5,m5⟩:=q1f h.kids
 unfold maxLen at m4 m5
 have AE:=hid (fun w=>rNoAttr_any at_ ac ap cc cp w (by omega) (by omega))
 clear l1 l2
 have HV:Hid (q0q k lv i t d ti at_ li ks=(decide (1<=k)&&decide (k<=15)&&(([2,8]:List Int).contains k||(lv==0))&&(([3,10,13,14,15]:List Int).contains k||i.toList.isEmpty)&&(([3,4]:List Int).contains k||t.toList.isEmpty) &&
 ((k==15)||(d.toList.isEmpty&&ti.toList.isEmpty))&&(([2,4,13]:List Int).contains k||at_.none)&&(([1,2,12]:List Int).contains k||((li.length:Int)==0))&&(([6,7,8,9,10,11,13,14]:List Int).contains k||((ks.length:Int)==0)))):=by
  show _=_
  rw [q19,q19,q19,q19,len0,len0]
  rfl
 obtain ⟨V,hV⟩:∃ V,V=q0q k lv i t d ti at_ li ks:=⟨_,rfl⟩
 rw [<- hV] at HV ⊢
 have hpat0:=blk_pat k
 have IL1:=hid (fun (w:World)=>in_lit k [2,8] w 3 (by decide))
 have IL2:=hid (fun (w:World)=>in_lit k [3,10,13,14,15] w 3 (by decide))
 have IL3:=hid (fun (w:World)=>in_lit k [3,4] w 3 (by decide))
 have IL4:=hid (fun (w:World)=>in_lit k [2,4,13] w 3 (by decide))
 have IL5:=hid (fun (w:World)=>in_lit k [1,2,12] w 3 (by decide))
 have IL6:=hid (fun (w:World)=>in_lit k [6,7,8,9,10,11,13,14] w 3 (by decide))
 generalize ([2,8]:List Int).contains k=b1 at *
 generalize ([3,10,13,14,15]:List Int).contains k=b2 at *
 generalize ([3,4]:List Int).contains k=b3 at *
 generalize ([2,4,13]:List Int).contains k=b4 at *
 generalize ([1,2,12]:List Int).contains k=b5 at *
 generalize ([6,7,8,9,10,11,13,14]:List Int).contains k=b6 at *
 generalize at_.none=bn at *
 obtain ⟨w1,hw1⟩:∃ w1,w1=w.alloc (.cells #[.int .i64 k,.int .i64 lv,.string i,.string t,.string d,.string ti,.string at_.id,.slice ac at_.cls.length cc,.slice ap at_.prs.length cp,.slice al li.length cl,.slice ak ks.length ck] 53):=⟨_,rfl⟩
 have k1:CB 53 w.heap.size [.int .i64 k,.int .i64 lv,.string i,.string t,.string d,.string ti,.string at_.id,.slice ac at_.cls.length cc,.slice ap at_.prs.length cp,.slice al li.length cl,.slice ak ks.length ck] w1:=by rw [hw1];exact CB.new _ _ _
 have B1:Hid (Below w.heap.size w w1):=by show Below _ _ _;rw [hw1];exact (Below.refl _ _).alloc (Nat.le_refl _) _
 have p0:=k1.cell 0 _ rfl
 have K1:=hid k1
 clear hV h k1
 go_enter Tryz.func106,Tryz.ntmps106
 simp only [List.append_eq,List.cons_append,List.nil_append]
 go_upto_region 1 with (fail)
 rw [<- hw1]
 clear hw1
 go_wp2_with fail
 refine (IL1.out w1).mono ?_
 rintro e w2 ⟨rfl,b2_⟩
 have K2:=hid (K1.out.below b2_)
 have B2:=hid (q01 B1.out b2_)
 have p0:=K2.out.cell 0 _ rfl
 clear b2_ K1 B1
 go_wp2_with fail
 refine (IL2.out w2).mono ?_
 rintro e w3 ⟨rfl,b3_⟩
 have K3:=hid (K2.out.below b3_)
 have B3:=hid (q01 B2.out b3_)
 have p0:=K3.out.cell 0 _ rfl
 clear b3_ K2 B2
 go_wp2_with fail
 refine (IL3.out w3).mono ?_
 rintro e w4 ⟨rfl,b4_⟩
 have K4:=hid (K3.out.below b4_)
 have B4:=hid (q01 B3.out b4_)
 have p0:=K4.out.cell 0 _ rfl
 clear b4_ K3 B3
 go_wp2_with fail
 refine (IL4.out w4).mono ?_
 rintro e w5 ⟨rfl,b5_⟩
 have K5:=hid (K4.out.below b5_)
 have B5:=hid (q01 B4.out b5_)
 have p0:=K5.out.cell 0 _ rfl
 clear b5_ K4 B4
 go_wp2_with fail
 refine (IL5.out w5).mono ?_
 rintro e w6 ⟨rfl,b6_⟩
 have K6:=hid (K5.out.below b6_)
 have B6:=hid (q01 B5.out b6_)
 have p0:=K6.out.cell 0 _ rfl
 clear b6_ K5 B5
 go_wp2_with fail
 refine (IL6.out w6).mono ?_
 rintro e w7 ⟨rfl,b7_⟩
 have K7:=hid (K6.out.below b7_)
 have B7:=hid (q01 B6.out b7_)
 have p0:=K7.out.cell 0 _ rfl
 clear b7_ K6 B6
 have p0:=K7.out.cell 0 _ rfl
 have p1:=K7.out.cell 1 _ rfl
 have p2:=K7.out.cell 2 _ rfl
 have p3:=K7.out.cell 3 _ rfl
 have p4:=K7.out.cell 4 _ rfl
 have p5:=K7.out.cell 5 _ rfl
 have p6:=K7.out.cell 6 _ rfl
 have p7:=K7.out.cell 7 _ rfl
 have p8:=K7.out.cell 8 _ rfl
 have p9:=K7.out.cell 9 _ rfl
 have p10:=K7.out.cell 10 _ rfl
 rcases hpat0 with hk | ⟨⟨hk1,hk2⟩,hpat⟩
 ·have hv:V=false:=by
   rw [HV.out]
   have:(decide (1<=k)&&decide (k<=15))=false:=by rw [Bool.and_eq_false_iff];simp;omega
   rw [this];rfl
  have HE:=hid hv
  by_cases hk1:1<=k
  ·have q1:decide ((1:Int)<=k)=true:=by simpa using hk1
   have q2:decide (k<=(15:Int))=false:=by simp;omega
   clear hv hk
   go_wp2
   go_ret
   exact ⟨by rw [HE.out];rfl,B7.out⟩
  ·have q1:decide ((1:Int)<=k)=false:=by simpa using hk1
   clear hv hk
   go_wp2
   go_ret
   exact ⟨by rw [HE.out];rfl,B7.out⟩
 have q1:decide ((1:Int)<=k)=true:=by simpa using hk1
 have q2:decide (k<=(15:Int))=true:=by simpa using hk2
 rw [q1,q2] at HV
 generalize hq15:(k==15)=q15 at *
 clear hk1 hk2
 rcases hpat with ⟨rfl,rfl,rfl,rfl,rfl,rfl,rfl⟩ | ⟨rfl,rfl,rfl,rfl,rfl,rfl,rfl⟩ | ⟨rfl,rfl,rfl,rfl,rfl,rfl,rfl⟩ | ⟨rfl,rfl,rfl,rfl,rfl,rfl,rfl⟩ | ⟨rfl,rfl,rfl,rfl,rfl,rfl,rfl⟩ | ⟨rfl,rfl,rfl,rfl,rfl,rfl,rfl⟩ | ⟨rfl,rfl,rfl,rfl,rfl,rfl,rfl⟩ | ⟨rfl,rfl,rfl,rfl,rfl,rfl,rfl⟩ | ⟨rfl,rfl,rfl,rfl,rfl,rfl,rfl⟩ | ⟨rfl,rfl,rfl,rfl,rfl,rfl,rfl⟩
 all_goals
  go_wp2_with (go_at_call 136;refine (AE.out _).mono ?_;rintro e w8 ⟨rfl,hb8⟩;have K8:=K7.out.below hb8;have p9:=K8.cell 9 _ rfl;have p10:=K8.cell 10 _ rfl;have p0:=K8.cell 0 _ rfl)
  all_goals
   go_ret
   refine ⟨q0h ?_,?_⟩
   ·rw [HV.out]
    (try simp only [*])
    (try simp)
    (try (simp only [<- List.length_eq_zero_iff];omega))
   ·first | exact q01 B7.out hb8 | exact B7.out
open Go.RowKit
theorem has_one (i:ByteArray) (k:Nat) (h:k<i.size):q0r (i.extract k (k+1)) colBs=colBs.contains i[k]:=by
 unfold q0r
 rw [ext_snoc i k k (Nat.le_refl _) h,ext_nil]
 simp
def TcRel (i:ByteArray) (w:World) (T p:Nat) (cs:List Value) (vi:Value) (wr:World):Prop:=
 ∃ k:Nat,k<=i.size/\vi=.int .i64 k/\CB T p cs wr/\Below w.heap.size w wr/\(i.data.toList.take k).all (fun c=>colBs.contains c)=true
def TkRel (ks:List Blk) (n:Nat) (w:World) (T p:Nat) (cs:List Value) (vi:Value) (wr:World):Prop:=
 ∃ k:Nat,k<=ks.length/\vi=.int .i64 k/\CB T p cs wr/\Below w.heap.size w wr/\(ks.take k).any (fun b=>!decide (b.kidN=n))=false
theorem rTable_any (w:World) (k lv:Int) (i t d ti:ByteArray) (at_:At) (li:List Inl) (ks:List Blk) (ac ap al ak:Option Addr) (cc cp cl ck:Nat)
  (h:BlR (·<w.heap.size) w at_ li ks (.slice ac at_.cls.length cc) (.slice ap at_.prs.length cp) (.slice al li.length cl) (.slice ak ks.length ck)) (hi:i.size<=1000000000) :
  Calls Tryz.prog 141 #[.agg #[.int .i64 k,.int .i64 lv,.string i,.string t,.string d,.string ti,.string at_.id,.slice ac at_.cls.length cc,.slice ap at_.prs.length cp,.slice al li.length cl,.slice ak ks.length ck]] w (RetB (.int .i64 (q2k i ks:Nat)) w):=by
 obtain ⟨a',c',hv,hs⟩:=Rd.sl_open h.kids
 obtain ⟨rfl,rfl⟩:a'=ak/\c'=ck:=by simp at hv;exact ⟨hv.1.symm,hv.2.symm⟩
 have hcap:ks.length<=c':=by simpa using hs.le
 have hmx:=hs.max
 unfold maxLen at hmx
 have HS:=hid hs
 have e3:=len0 ks
 have HE:Hid (q2k i ks=if 32<i.size then 3 else if q06 i=true then 5 else if i.data.toList.any (fun c=>!(colBs:List UInt8).contains c) then 5
   else if ks.isEmpty=true then 8 else if ks.any (fun b=>!decide (b.kidN=i.size)) then 15 else 0):=rfl
 generalize q2k i ks=V at *
 obtain ⟨w1,hw1⟩:∃ w1,w1=w.alloc (.cells #[.int .i64 k,.int .i64 lv,.string i,.string t,.string d,.string ti,.string at_.id,.slice ac at_.cls.length cc,.slice ap at_.prs.length cp,.slice al li.length cl,.slice a' ks.length c'] 53):=⟨_,rfl⟩
 have k1:CB 53 w.heap.size [.int .i64 k,.int .i64 lv,.string i,.string t,.string d,.string ti,.string at_.id,.slice ac at_.cls.length cc,.slice ap at_.prs.length cp,.slice al li.length cl,.slice a' ks.length c'] w1:=by rw [hw1];exact CB.new _ _ _
 have b1:Below w.heap.size w w1:=by rw [hw1];exact (Below.refl _ _).alloc (Nat.le_refl _) _
 have p0:=k1.cell 0 _ rfl
 have p1:=k1.cell 1 _ rfl
 have p2:=k1.cell 2 _ rfl
 have p3:=k1.cell 3 _ rfl
 have p4:=k1.cell 4 _ rfl
 have p5:=k1.cell 5 _ rfl
 have p6:=k1.cell 6 _ rfl
 have p7:=k1.cell 7 _ rfl
 have p8:=k1.cell 8 _ rfl
 have p9:=k1.cell 9 _ rfl
 have p10:=k1.cell 10 _ rfl
 have K1:=hid k1
 have B1:=hid b1
 clear hv hs h k1 b1
 by_cases h32:32<i.size
 ·have HV:Hid (V=3):=by show V=3;rw [HE.out,if_pos h32]
  have q:decide ((32:Int)<(i.size:Int))=true:=by simp;omega
  clear HE
  go_enter Tryz.func141,Tryz.ntmps141
  go_upto_region 1 with (fail)
  rw [<- hw1]
  clear hw1
  go_wp2
  go_ret
  exact ⟨by rw [HV.out];rfl,B1.out⟩
 have q:decide ((32:Int)<(i.size:Int))=false:=by simp;omega
 rcases emp_part i with rfl | ⟨i1,i2,i3,i4⟩
 ·have HV:Hid (V=5):=by show V=5;rw [HE.out,if_neg h32,if_pos (by decide)]
  clear HE
  go_enter Tryz.func141,Tryz.ntmps141
  go_upto_region 1 with (fail)
  rw [<- hw1]
  clear hw1
  go_wp2
  go_ret
  exact ⟨by rw [HV.out];rfl,B1.out⟩
 have HE2:Hid (V=if i.data.toList.any (fun c=>!(colBs:List UInt8).contains c) then 5
   else if ks.isEmpty=true then 8 else if ks.any (fun b=>!decide (b.kidN=i.size)) then 15 else 0):=by
  show V=_;rw [HE.out,if_neg h32,if_neg (by rw [i4];decide)]
 have R0:Hid (TcRel i w 53 w.heap.size [.int .i64 k,.int .i64 lv,.string i,.string t,.string d,.string ti,.string at_.id,.slice ac at_.cls.length cc,.slice ap at_.prs.length cp,.slice al li.length cl,.slice a' ks.length c'] (.int .i64 0) w1):=⟨0,Nat.zero_le _,rfl,K1.out,B1.out,by simp⟩
 clear HE
 go_enter Tryz.func141,Tryz.ntmps141
 go_upto_region 1 with (fail)
 rw [<- hw1]
 clear hw1
 go_wp2
 go_loopw [3] (fun vi wr=>TcRel i w 53 w.heap.size [.int .i64 k,.int .i64 lv,.string i,.string t,.string d,.string ti,.string at_.id,.slice ac at_.cls.length cc,.slice ap at_.prs.length cp,.slice al li.length cl,.slice a' ks.length c'] vi wr) (fun vi _=>i.size-(intOf vi).toNat)
 case atStart=>exact R0.out
 case round=>
  clear R0 p0 p1 p2 p3 p4 p5 p6 p7 p8 p9 p10
  obtain ⟨k',hk',rfl,hcb,hbel,hal⟩:=hrel
  have p0:=hcb.cell 0 _ rfl
  have p1:=hcb.cell 1 _ rfl
  have p2:=hcb.cell 2 _ rfl
  have p3:=hcb.cell 3 _ rfl
  have p4:=hcb.cell 4 _ rfl
  have p5:=hcb.cell 5 _ rfl
  have p6:=hcb.cell 6 _ rfl
  have p7:=hcb.cell 7 _ rfl
  have p8:=hcb.cell 8 _ rfl
  have p9:=hcb.cell 9 _ rfl
  have p10:=hcb.cell 10 _ rfl
  have HCB:=hid hcb
  have HB:=hid hbel
  have HAL:=hid hal
  clear hcb hbel hal
  by_cases hlt:k'<i.size
  ·have RH:=hid (rHasB_any (i.extract k' (k'+1)) ⟨#[45,108,99,114]⟩ wr (by rw [ByteArray.size_extract];omega) (by decide))
   have hho:q0r (i.extract k' (k'+1)) (ByteArray.mk #[45,108,99,114]).data.toList=colBs.contains i[k']:=has_one i k' hlt
   rw [hho] at RH
   have hg:=q12 i k' hlt
   cases hc:colBs.contains i[k'] with
   | true=>
    rw [hc] at RH
    have HAL2:Hid ((i.data.toList.take (k'+1)).all (fun c=>colBs.contains c)=true):=by
     show _=true
     rw [List.take_add_one,hg,List.all_append,HAL.out]
     simpa using hc
    clear hho hg hc
    go_wp2_with fail
    refine RH.out.mono ?_
    rintro e w2 ⟨rfl,hb2⟩
    have HCB2:=hid (HCB.out.below hb2)
    have HB2:=hid (q01 HB.out hb2)
    clear hb2
    go_wp2
    go_roundw
    case rel=>exact ⟨k'+1,by omega,by go_num,HCB2.out,HB2.out,HAL2.out⟩
    case measure=>simp [intOf];omega
   | false=>
    rw [hc] at RH
    have HV:Hid (V=5):=by
     show V=5
     rw [HE2.out,if_pos]
     rw [List.any_eq_true]
     exact ⟨_,List.mem_of_getElem? hg,by rw [hc];rfl⟩
    clear hho hg hc
    go_wp2_with fail
    refine RH.out.mono ?_
    rintro e w2 ⟨rfl,hb2⟩
    have HB2:=hid (q01 HB.out hb2)
    clear hb2
    go_wp2
    go_ret
    exact ⟨by rw [HV.out];rfl,HB2.out⟩
  ·have hall:i.data.toList.all (fun c=>colBs.contains c)=true:=by
    have:=HAL.out
    rwa [List.take_of_length_le (by simpa using (by omega:i.size<=k'))] at this
   have HE3:Hid (V=if ks.isEmpty=true then 8 else if ks.any (fun b=>!decide (b.kidN=i.size)) then 15 else 0):=by
    show V=_
    have h2:(i.data.toList.any fun c=>!(colBs:List UInt8).contains c)=false:=by
     rw [List.any_eq_false]
     intro x hx
     have:=List.all_eq_true.1 hall x hx
     rw [this];decide
    rw [HE2.out,h2,if_neg (by decide)]
   clear hall HE2 HAL
   cases hk0:ks.isEmpty with
   | true=>
    rw [hk0] at e3
    have HV2:Hid (V=8):=by show V=8;rw [HE3.out,if_pos hk0]
    clear hk0
    go_wp2
    go_ret
    exact ⟨by rw [HV2.out];rfl,HB.out⟩
   | false=>
    rw [hk0] at e3
    have HV2:Hid (V=if ks.any (fun b=>!decide (b.kidN=i.size)) then 15 else 0):=by show V=_;rw [HE3.out,if_neg (by rw [hk0];decide)]
    have R0:Hid (TkRel ks i.size w 53 w.heap.size [.int .i64 k,.int .i64 lv,.string i,.string t,.string d,.string ti,.string at_.id,.slice ac at_.cls.length cc,.slice ap at_.prs.length cp,.slice al li.length cl,.slice a' ks.length c'] (.int .i64 0) wr):=⟨0,Nat.zero_le _,rfl,HCB.out,HB.out,by simp⟩
    clear hk0 HE3 HB HCB
    go_wp2
    go_loopw [4] (fun vi wr=>TkRel ks i.size w 53 w.heap.size [.int .i64 k,.int .i64 lv,.string i,.string t,.string d,.string ti,.string at_.id,.slice ac at_.cls.length cc,.slice ap at_.prs.length cp,.slice al li.length cl,.slice a' ks.length c'] vi wr) (fun vi _=>ks.length-(intOf vi).toNat)
    case atStart=>exact R0.out
    case round=>
     clear R0 p0 p1 p2 p3 p4 p5 p6 p7 p8 p9 p10
     obtain ⟨j,hj,rfl,hcb,hbel,hno⟩:=hrel
     have p0:=hcb.cell 0 _ rfl
     have p1:=hcb.cell 1 _ rfl
     have p2:=hcb.cell 2 _ rfl
     have p3:=hcb.cell 3 _ rfl
     have p4:=hcb.cell 4 _ rfl
     have p5:=hcb.cell 5 _ rfl
     have p6:=hcb.cell 6 _ rfl
     have p7:=hcb.cell 7 _ rfl
     have p8:=hcb.cell 8 _ rfl
     have p9:=hcb.cell 9 _ rfl
     have p10:=hcb.cell 10 _ rfl
     have HCB:=hid hcb
     have HB:=hid hbel
     have HNO:=hid hno
     by_cases hlt:j<ks.length
     ·obtain ⟨x,hx⟩:∃ x,ks[j]?=some x:=⟨_,List.getElem?_eq_getElem hlt⟩
      have HSN:=hid (any_snoc (fun b:Blk=>!decide (b.kidN=i.size)) hx)
      have HAT:=hid (any_at (fun b:Blk=>!decide (b.kidN=i.size)) hx)
      obtain ⟨kd',lv',i',t',d',ti',at',li',ks'⟩:=x
      obtain ⟨b',off',ac',ap',al',ak',cc',cp',cl',ck',ha',hP'⟩:=blP_at HS.out hx
      have k10:=(hP'.up hbel).cells.c10
      subst ha'
      have HKN:Hid ((Blk.mk kd' lv' i' t' d' ti' at' li' ks').kidN=ks'.length):=rfl
      clear hP' hx hno hbel hcb
      by_cases hq:ks'.length=i.size
      ·have q1:((ks'.length:Int) != (i.size:Int))=false:=by rw [bne_eq_false_iff_eq];omega
       have HQ:=hid hq
       clear hq
       go_wp2_with fail
       go_quiet (fail)
       go_wp2
       go_roundw
       case rel=>exact ⟨j+1,by omega,by go_num,HCB.out.dN 1,q03 HB.out _,by rw [HSN.out,HNO.out,HKN.out,HQ.out];simp⟩
       case measure=>simp [intOf];omega
      ·have q1:((ks'.length:Int) != (i.size:Int))=true:=by rw [bne_iff_ne];omega
       have hv:V=15:=by rw [HV2.out,if_pos (HAT.out (by rw [HKN.out];simp [hq]))]
       have HV3:=hid hv
       clear hq hv
       go_wp2_with fail
       go_quiet (fail)
       go_wp2
       go_ret
       exact ⟨by rw [HV3.out];rfl,q03 HB.out _⟩
     ·have hv:V=0:=by
       have:=HNO.out
       rw [List.take_of_length_le (by omega)] at this
       rw [HV2.out,if_neg (by rw [this];decide)]
      have HV3:=hid hv
      clear hv hno hbel hcb
      go_wp2
      go_ret
      exact ⟨by rw [HV3.out];rfl,HB.out⟩
def writErr (k lv:Int) (a:At) (li:List Inl):Nat:=
 if k=1 then (if li.isEmpty=true then 8 else q18 li)
 else if k=2 then (if lv<1\/6<lv then 9 else if a.err≠0 then a.err else if Inl.anyL brkKinds li=true then 5 else q18 li)
 else (if Inl.anyL brkKinds li=true then 5 else q18 li)
theorem rWritten_any (w:World) (k lv:Int) (i t d ti:ByteArray) (at_:At) (li:List Inl) (ks:List Blk) (ac ap al ak:Option Addr) (cc cp cl ck:Nat)
  (h:BlR (·<w.heap.size) w at_ li ks (.slice ac at_.cls.length cc) (.slice ap at_.prs.length cp) (.slice al li.length cl) (.slice ak ks.length ck)) (hs:BlS i t d ti at_ li) (hk:k=1\/k=2\/k=12) :
  Calls Tryz.prog 137 #[.agg #[.int .i64 k,.int .i64 lv,.string i,.string t,.string d,.string ti,.string at_.id,.slice ac at_.cls.length cc,.slice ap at_.prs.length cp,.slice al li.length cl,.slice ak ks.length ck]] w (RetB (.int .i64 (writErr k lv at_ li:Nat)) w):=by
 obtain ⟨-,l4,m4⟩:=q1f h.line
 unfold maxLen at m4
 have AC:=hid (fun wx (hb:Below w.heap.size w wx)=>rCheck3_any at_ ac ap cc cp wx (h.at_.up hb) hs.at_)
 have AK:=hid (fun wx (hb:Below w.heap.size w wx)=>rAnyOf_any _ li (.slice al li.length cl) true wx (Nat.le_refl _) (h.line.up hb))
 change Hid (∀ wx,Below w.heap.size w wx->Calls Tryz.prog 170 #[.slice al li.length cl,.bool true] wx (RetB (.bool (Inl.anyL brkKinds li)) wx)) at AK
 have LE:=hid (fun wx (hb:Below w.heap.size w wx)=>rLineErr_any li al cl wx hs.li (h.line.up hb))
 have e2:=len0 li
 have HE:Hid (writErr k lv at_ li=if k=1 then (if li.isEmpty=true then 8 else q18 li)
 else if k=2 then (if lv<1\/6<lv then 9 else if at_.err≠0 then at_.err else if Inl.anyL brkKinds li=true then 5 else q18 li)
 else (if Inl.anyL brkKinds li=true then 5 else q18 li)):=rfl
 generalize writErr k lv at_ li=V at *
 generalize q18 li=E1 at *
 generalize Inl.anyL brkKinds li=A at *
 generalize at_.err=E at *
 generalize li.isEmpty=bl at *
 obtain ⟨w1,hw1⟩:∃ w1,w1=w.alloc (.cells #[.int .i64 k,.int .i64 lv,.string i,.string t,.string d,.string ti,.string at_.id,.slice ac at_.cls.length cc,.slice ap at_.prs.length cp,.slice al li.length cl,.slice ak ks.length ck] 53):=⟨_,rfl⟩
 have k1:CB 53 w.heap.size [.int .i64 k,.int .i64 lv,.string i,.string t,.string d,.string ti,.string at_.id,.slice ac at_.cls.length cc,.slice ap at_.prs.length cp,.slice al li.length cl,.slice ak ks.length ck] w1:=by rw [hw1];exact CB.new _ _ _
 have b1:Below w.heap.size w w1:=by rw [hw1];exact (Below.refl _ _).alloc (Nat.le_refl _) _
 have p0:=k1.cell 0 _ rfl
 have p1:=k1.cell 1 _ rfl
 have p2:=k1.cell 2 _ rfl
 have p3:=k1.cell 3 _ rfl
 have p4:=k1.cell 4 _ rfl
 have p5:=k1.cell 5 _ rfl
 have p6:=k1.cell 6 _ rfl
 have p7:=k1.cell 7 _ rfl
 have p8:=k1.cell 8 _ rfl
 have p9:=k1.cell 9 _ rfl
 have p10:=k1.cell 10 _ rfl
 have K1:=hid k1
 have B1:=hid b1
 clear h hs k1 b1
 rcases hk with rfl | rfl | rfl
 ·go_enter Tryz.func137,Tryz.ntmps137
  (try simp only [List.append_eq,List.cons_append,List.nil_append])
  go_upto_region 1 with (fail)
  rw [<- hw1]
  clear hw1
  cases bl
  all_goals
   go_wp2_with (go_at_call 171;refine (LE.out _ B1.out).mono ?_;rintro e w2 ⟨rfl,hb2⟩;have HB2:=hid (q01 B1.out hb2))
   all_goals
    go_ret
    refine ⟨q1x ?_,?_⟩
    ·rw [HE.out];simp
    ·first | exact HB2.out | exact B1.out
 ·have hlv:lv<1\/(1<=lv/\6<lv)\/(1<=lv/\lv<=6):=by omega
  rcases hlv with hl | ⟨hl1,hl2⟩ | ⟨hl1,hl2⟩
  ·have HV:Hid (V=9):=by show V=9;rw [HE.out];simp [hl]
   have q1:decide (lv<1)=true:=by simpa using hl
   clear HE hl
   go_enter Tryz.func137,Tryz.ntmps137
   (try simp only [List.append_eq,List.cons_append,List.nil_append])
   go_upto_region 1 with (fail)
   rw [<- hw1]
   clear hw1
   go_wp2
   go_ret
   exact ⟨by rw [HV.out];rfl,B1.out⟩
  ·have HV:Hid (V=9):=by show V=9;rw [HE.out];simp [hl2]
   have q1:decide (lv<1)=false:=by simp;omega
   have q2:decide (6<lv)=true:=by simpa using hl2
   clear HE hl1 hl2
   go_enter Tryz.func137,Tryz.ntmps137
   (try simp only [List.append_eq,List.cons_append,List.nil_append])
   go_upto_region 1 with (fail)
   rw [<- hw1]
   clear hw1
   go_wp2
   go_ret
   exact ⟨by rw [HV.out];rfl,B1.out⟩
  ·have HV:Hid (V=if E≠0 then E else if A=true then 5 else E1):=by
    show V=_
    rw [HE.out,if_neg (by decide),if_pos rfl,if_neg (by omega)]
   have q1:decide (lv<1)=false:=by simp;omega
   have q2:decide (6<lv)=false:=by simp;omega
   clear HE hl1 hl2
   by_cases hE:E=0
   ·subst hE
    cases A
    all_goals
     go_enter Tryz.func137,Tryz.ntmps137
     (try simp only [List.append_eq,List.cons_append,List.nil_append])
     go_upto_region 1 with (fail)
     rw [<- hw1]
     clear hw1
     go_wp2_with (first
      | (go_at_call 140;refine (AC.out _ B1.out).mono ?_;rintro e w2 ⟨rfl,hb2⟩;have K2:=K1.out.below hb2;have HB2:=hid (q01 B1.out hb2);have p0:=K2.cell 0 _ rfl;have p9:=K2.cell 9 _ rfl)
      | (go_at_call 170;refine (AK.out _ HB2.out).mono ?_;rintro e w3 ⟨rfl,hb3⟩;have K3:=K2.below hb3;have HB3:=hid (q01 HB2.out hb3);have p0:=K3.cell 0 _ rfl;have p9:=K3.cell 9 _ rfl)
      | (go_at_call 171;refine (LE.out _ HB3.out).mono ?_;rintro e w4 ⟨rfl,hb4⟩;have HB4:=hid (q01 HB3.out hb4)))
     all_goals
      go_ret
      refine ⟨q1x ?_,?_⟩
      ·rw [HV.out];simp
      ·first | exact HB4.out | exact HB3.out
   ·have q3:((E:Int) != 0)=true:=by rw [bne_iff_ne];omega
    have HV2:Hid (V=E):=by show V=E;rw [HV.out,if_pos hE]
    clear HV hE
    go_enter Tryz.func137,Tryz.ntmps137
    (try simp only [List.append_eq,List.cons_append,List.nil_append])
    go_upto_region 1 with (fail)
    rw [<- hw1]
    clear hw1
    go_wp2_with fail
    refine (AC.out _ B1.out).mono ?_
    rintro e w2 ⟨rfl,hb2⟩
    have HB2:=hid (q01 B1.out hb2)
    clear hb2
    go_wp2
    go_ret
    exact ⟨by rw [HV2.out];rfl,HB2.out⟩
 ·cases A
  all_goals
   go_enter Tryz.func137,Tryz.ntmps137
   (try simp only [List.append_eq,List.cons_append,List.nil_append])
   go_upto_region 1 with (fail)
   rw [<- hw1]
   clear hw1
   go_wp2_with (first
    | (go_at_call 170;refine (AK.out _ B1.out).mono ?_;rintro e w3 ⟨rfl,hb3⟩;have K3:=K1.out.below hb3;have HB3:=hid (q01 B1.out hb3);have p0:=K3.cell 0 _ rfl;have p9:=K3.cell 9 _ rfl)
    | (go_at_call 171;refine (LE.out _ HB3.out).mono ?_;rintro e w4 ⟨rfl,hb4⟩;have HB4:=hid (q01 HB3.out hb4)))
   all_goals
    go_ret
    refine ⟨q1x ?_,?_⟩
    ·rw [HE.out];simp
    ·first | exact HB4.out | exact HB3.out
theorem rItself_any (w:World) (k lv:Int) (i t d ti:ByteArray) (at_:At) (li:List Inl) (ks:List Blk) (ac ap al ak:Option Addr) (cc cp cl ck:Nat)
  (h:BlR (·<w.heap.size) w at_ li ks (.slice ac at_.cls.length cc) (.slice ap at_.prs.length cp) (.slice al li.length cl) (.slice ak ks.length ck)) (hs:BlS i t d ti at_ li) (hf:q0q k lv i t d ti at_ li ks=true) :
  Calls Tryz.prog 108 #[.agg #[.int .i64 k,.int .i64 lv,.string i,.string t,.string d,.string ti,.string at_.id,.slice ac at_.cls.length cc,.slice ap at_.prs.length cp,.slice al li.length cl,.slice ak ks.length ck]] w (RetB (.int .i64 (q1z q0i k lv i t d ti at_ li ks:Nat)) w):=by
 obtain ⟨f1,f2,f3⟩:=blfields_and hf
 obtain ⟨-,l4,m4⟩:=q1f h.line
 obtain ⟨-,l5,m5⟩:=q1f h.kids
 unfold maxLen at m4 m5
 have WR:=hid (fun wx (hb:Below w.heap.size w wx) hk=>rWritten_any wx k lv i t d ti at_ li ks ac ap al ak cc cp cl ck (h.up hb) hs hk)
 have TB:=hid (fun wx (hb:Below w.heap.size w wx)=>rTable_any wx k lv i t d ti at_ li ks ac ap al ak cc cp cl ck (h.up hb) (by have:=hs.i;omega))
 have CLI:=hid (fun w=>q22 i w (by have:=hs.i;omega))
 have CTR:=hid (fun w=>rTrim_any i w (by have:=hs.i;omega))
 have CBD:=hid (fun w=>rBody_any t w (by have:=hs.t;omega))
 have CCL:=hid (fun w=>rCloses_any t w (by have:=hs.t;omega))
 have CNM:=hid (fun w=>q23 i w (by have:=hs.i;omega))
 have CLB:=hid (fun w=>rLabel_any i w (by have:=hs.i;omega))
 have CLD:=hid (fun w=>q22 d w (by have:=hs.d;omega))
 have CLT:=hid (fun w=>q22 ti w (by have:=hs.ti;omega))
 have AC:=hid (fun wx (hb:Below w.heap.size w wx)=>rCheck3_any at_ ac ap cc cp wx (h.at_.up hb) hs.at_)
 have e3:=len0 ks
 have HE:Hid (q1z q0i k lv i t d ti at_ li ks=if k=1\/k=2\/k=12 then writErr k lv at_ li
 else if k=3 then (if q0d i=false\/trimS i=false\/bodyS t=false then 17 else 0)
 else if k=4 then (if bodyS t=false then 17 else if q0i t=true then 5 else at_.err)
 else if k=7\/k=8 then (if ks.isEmpty=true then 8 else if k=8/\(lv<0\/999999999<lv) then 9 else 0)
 else if k=10 then q2k i ks
 else if k=13\/k=14 then (if q0a i=false then 6 else at_.err)
 else if k=15 then (if q1i i=false then 6 else if q0d d=false\/q0d ti=false then 17 else 0)
 else 0):=by
  show _=_
  unfold q1z writErr
  by_cases g1:k=1
  ·simp [g1]
  by_cases g2:k=2
  ·simp [g2]
  by_cases g3:k=12
  ·simp [g3]
  simp [g1,g2,g3]
 generalize q1z q0i k lv i t d ti at_ li ks=V at *
 generalize hwe:writErr k lv at_ li=E1 at *
 generalize q2k i ks=E5 at *
 generalize at_.err=E6 at *
 generalize q0d i=b1 at *
 generalize trimS i=b2 at *
 generalize bodyS t=b3 at *
 generalize q0a i=b4 at *
 generalize q1i i=b5 at *
 generalize q0d d=b6 at *
 generalize q0d ti=b7 at *
 generalize q0i t=b8 at *
 generalize ks.isEmpty=bk at *
 obtain ⟨w1,hw1⟩:∃ w1,w1=w.alloc (.cells #[.int .i64 k,.int .i64 lv,.string i,.string t,.string d,.string ti,.string at_.id,.slice ac at_.cls.length cc,.slice ap at_.prs.length cp,.slice al li.length cl,.slice ak ks.length ck] 53):=⟨_,rfl⟩
 have k1:CB 53 w.heap.size [.int .i64 k,.int .i64 lv,.string i,.string t,.string d,.string ti,.string at_.id,.slice ac at_.cls.length cc,.slice ap at_.prs.length cp,.slice al li.length cl,.slice ak ks.length ck] w1:=by rw [hw1];exact CB.new _ _ _
 have bb1:Below w.heap.size w w1:=by rw [hw1];exact (Below.refl _ _).alloc (Nat.le_refl _) _
 have p0:=k1.cell 0 _ rfl
 have p1:=k1.cell 1 _ rfl
 have p2:=k1.cell 2 _ rfl
 have p3:=k1.cell 3 _ rfl
 have p4:=k1.cell 4 _ rfl
 have p5:=k1.cell 5 _ rfl
 have p6:=k1.cell 6 _ rfl
 have p7:=k1.cell 7 _ rfl
 have p8:=k1.cell 8 _ rfl
 have p9:=k1.cell 9 _ rfl
 have p10:=k1.cell 10 _ rfl
 have K1:=hid k1
 have B1:=hid bb1
 clear h hs hf k1 bb1 hwe
 rcases bl_kinds k with rfl | rfl | rfl | rfl | rfl | rfl | rfl | rfl | rfl | rfl | rfl | rfl | rfl | rfl | rfl | hk
 case inr.inr.inr.inr.inr.inr.inr.inr.inr.inr.inr.inr.inr.inr.inr=>omega
 case inr.inr.inr.inr.inr.inr.inr.inl=>
  clear f1 f2 f3
  have hlv:lv<0\/(0<=lv/\999999999<lv)\/(0<=lv/\lv<=999999999):=by omega
  have HG:Hid ((lv<0\/999999999<lv)↔¬ (0<=lv/\lv<=999999999)):=by show _↔_;omega
  rcases hlv with g | ⟨g1,g2⟩ | ⟨g1,g2⟩
  ·have q1:decide (lv<0)=true:=by simpa using g
   have HQ:Hid (lv<0\/999999999<lv):=.inl g
   clear g HG
   cases bk
   all_goals
    go_enter Tryz.func108,Tryz.ntmps108
    (try simp only [List.append_eq,List.cons_append,List.nil_append])
    go_upto_region 1 with (fail)
    rw [<- hw1]
    clear hw1
    go_wp2
    go_ret
    refine ⟨q1x ?_,B1.out⟩
    rw [HE.out]
    simp [HQ.out]
  ·have q1:decide (lv<0)=false:=by simp;omega
   have q2:decide (999999999<lv)=true:=by simpa using g2
   have HQ:Hid (lv<0\/999999999<lv):=.inr g2
   clear g1 g2 HG
   cases bk
   all_goals
    go_enter Tryz.func108,Tryz.ntmps108
    (try simp only [List.append_eq,List.cons_append,List.nil_append])
    go_upto_region 1 with (fail)
    rw [<- hw1]
    clear hw1
    go_wp2
    go_ret
    refine ⟨q1x ?_,B1.out⟩
    rw [HE.out]
    simp [HQ.out]
  ·have q1:decide (lv<0)=false:=by simp;omega
   have q2:decide (999999999<lv)=false:=by simp;omega
   have HQ:Hid (¬ (lv<0\/999999999<lv)):=by show ¬ _;omega
   clear g1 g2 HG
   cases bk
   all_goals
    go_enter Tryz.func108,Tryz.ntmps108
    (try simp only [List.append_eq,List.cons_append,List.nil_append])
    go_upto_region 1 with (fail)
    rw [<- hw1]
    clear hw1
    go_wp2
    go_ret
    refine ⟨q1x ?_,B1.out⟩
    rw [HE.out]
    simp [HQ.out]
 all_goals
  clear f1 f2 f3
  go_enter Tryz.func108,Tryz.ntmps108
  (try simp only [List.append_eq,List.cons_append,List.nil_append])
  go_upto_region 1 with (fail)
  rw [<- hw1]
  clear hw1
  go_wp2_with (first
   | (go_at_call 137;refine (WR.out _ B1.out (by simp)).mono ?_;rintro e w9 ⟨rfl,hb9⟩;have HB9:=hid (q01 B1.out hb9))
   | (go_at_call 141;refine (TB.out _ B1.out).mono ?_;rintro e w9 ⟨rfl,hb9⟩;have HB9:=hid (q01 B1.out hb9))
   | (go_at_call 142;refine (CLB.out _).mono ?_;rintro e w2 ⟨rfl,hb2⟩;have K2:=K1.out.below hb2;have HB2:=hid (q01 B1.out hb2);have p4:=K2.cell 4 _ rfl;have p5:=K2.cell 5 _ rfl)
   | (go_at_call 41;refine (CNM.out _).mono ?_;rintro e w2 ⟨rfl,rfl⟩)
   | (go_at_call 43;refine (CTR.out _).mono ?_;rintro e w5 ⟨rfl,rfl⟩)
   | (go_at_call 138;refine (CBD.out _).mono ?_;rintro e w3 ⟨rfl,hb3⟩;have K3:=(by first | exact K2.below hb3 | exact K1.out.below hb3:CB 53 w.heap.size _ w3);have HB3:Hid (Below w.heap.size w w3):=(by first | exact hid (q01 HB2.out hb3) | exact hid (q01 B1.out hb3));have p3:=K3.cell 3 _ rfl;have p6:=K3.cell 6 _ rfl;have p7:=K3.cell 7 _ rfl;have p8:=K3.cell 8 _ rfl)
   | (go_at_call 139;refine (CCL.out _).mono ?_;rintro e w4 ⟨rfl,hb4⟩;have K4:=K3.below hb4;have HB4:=hid (q01 HB3.out hb4);have p6:=K4.cell 6 _ rfl;have p7:=K4.cell 7 _ rfl;have p8:=K4.cell 8 _ rfl)
   | (go_at_call 140;refine (AC.out _ (by first | exact HB4.out | exact B1.out)).mono ?_;rintro e w9 ⟨rfl,hb9⟩;have HB9:Hid (Below w.heap.size w w9):=(by first | exact hid (q01 HB4.out hb9) | exact hid (q01 B1.out hb9)))
   | (go_at_call 42;(with_reducible refine (CLI.out _).mono ?_);rintro e w2 ⟨rfl,hb2⟩;have K2:=K1.out.below hb2;have HB2:=hid (q01 B1.out hb2);have p2:=K2.cell 2 _ rfl;have p3:=K2.cell 3 _ rfl)
   | (go_at_call 42;(with_reducible refine (CLD.out _).mono ?_);rintro e w6 ⟨rfl,hb6⟩;have K6:=K2.below hb6;have HB6:=hid (q01 HB2.out hb6);have p5:=K6.cell 5 _ rfl)
   | (go_at_call 42;(with_reducible refine (CLT.out _).mono ?_);rintro e w7 ⟨rfl,hb7⟩;have HB7:=hid (q01 HB6.out hb7)))
  all_goals
   go_ret
   refine ⟨q1x ?_,?_⟩
   ·(try simp only [Bool.not_eq_true',Bool.not_eq_false'] at *)
    rw [HE.out]
    simp [*]
   ·first | exact HB9.out | exact HB7.out | exact HB6.out | exact HB4.out | exact HB3.out | exact HB2.out | exact B1.out
open Go.RowKit
theorem rBlocks0_any (n:Nat):∀ (l:List Blk) (par:Int) (dp:Nat) (a:Option Addr) (cap:Nat) (w:World),Blk.szL l<=n->dp<=1000000->Blk.smallL l->Rd (·<w.heap.size) w (q0x l) [.slice a l.length cap] ->
  Calls Tryz.prog 79 #[.slice a l.length cap,.int .i64 par,.int .i64 (dp:Int)] w (RetB (.int .i64 (Blk.errL q0i par dp l:Nat)) w):=by
 induction n using Nat.strongRecOn with
 | _ n ih=>
  intro l par dp a cap w hn hdp hsm h
  obtain ⟨a',c',hv,hs⟩:=Rd.sl_open h
  obtain ⟨rfl,rfl⟩:a'=a/\c'=cap:=by simp at hv;exact ⟨hv.1.symm,hv.2.symm⟩
  have hcap:l.length<=c':=by simpa using hs.le
  have hmx:=hs.max
  unfold maxLen at hmx
  have HS:=hid hs
  have IH:=hid ih
  have SM:=hid hsm
  obtain ⟨E,hE⟩:∃ E,Blk.errL q0i par dp l=E:=⟨_,rfl⟩
  rw [hE]
  have R0:Hid (CbRel q0i l par dp E w (.int .i64 0) w):=⟨0,Nat.zero_le _,rfl,Below.refl _ _,hE⟩
  clear hs hv h ih hsm hE
  go_enter Tryz.func79,Tryz.ntmps79
  go_wp2
  go_loopw [7] (fun i wr=>CbRel q0i l par dp E w i wr) (fun i _=>l.length-(intOf i).toNat)
  case atStart=>exact R0.out
  case round=>
   clear R0
   obtain ⟨k,hk,rfl,hbel,herr⟩:=hrel
   have HB:=hid hbel
   by_cases hlt:k<l.length
   ·obtain ⟨x,hx⟩:∃ x,l[k]?=some x:=⟨_,List.getElem?_eq_getElem hlt⟩
    have hxs:x.small:=Blk.smallL_get SM.out hx
    have hsz:=Blk.szL_get l k _ hx
    rw [q0s l k x hx] at herr
    obtain ⟨kd,lv,i,t,d,ti,at_,li,ks⟩:=x
    rw [Blk.sz] at hsz
    obtain ⟨hbs,hks⟩:=blS_of hxs
    obtain ⟨b,off,ac,ap,al,ak,cc,cp,cl,ck,rfl,hP0⟩:=blP_at HS.out hx
    have hP:=hP0.up hbel
    obtain ⟨c0,c1,c2,c3,c4,c5,c6,c7,c8,c9,c10⟩:=hP.cells
    obtain ⟨wi,hwi⟩:∃ wi,wi=wr.alloc (.cells #[.int .i64 kd,.int .i64 lv,.string i,.string t,.string d,.string ti,.string at_.id,.slice ac at_.cls.length cc,.slice ap at_.prs.length cp,.slice al li.length cl,.slice ak ks.length ck] 53):=⟨_,rfl⟩
    have bi:Below wr.heap.size wr wi:=by rw [hwi];exact (Below.refl _ _).alloc (Nat.le_refl _) _
    have kb:CB 53 wr.heap.size [.int .i64 kd,.int .i64 lv,.string i,.string t,.string d,.string ti,.string at_.id,.slice ac at_.cls.length cc,.slice ap at_.prs.length cp,.slice al li.length cl,.slice ak ks.length ck] wi:=by rw [hwi];exact CB.new _ _ _
    have HRD:=hid (hP.rd.up bi)
    have KB:=hid kb
    have BI:=hid (q01 HB.out bi)
    have HERR:=hid herr
    clear hxs hP hP0 herr hx hbel bi kb
    go_upto_region 5 with (fail)
    rw [<- hwi]
    clear hwi c0 c1 c2 c3 c4 c5 c6 c7 c8 c9 c10
    by_cases h15:15<dp
    ·have q15:decide ((15:Int)<(dp:Int))=true:=by simp;omega
     have HE:Hid (E=11):=by
      show E=11
      rw [<- HERR.out,Blk.errL,Blk.err,if_pos h15];rfl
     go_wp2
     go_ret
     exact ⟨by rw [HE.out];rfl,BI.out⟩
    have q15:decide ((15:Int)<(dp:Int))=false:=by simp;omega
    have herr:=HERR.out
    rw [bl_errL_cons _ _ _ _ _ _ _ _ _ _ _ _ _ h15] at herr
    have HERR:=hid herr
    have IFD:=hid (rBlockFields_any wi kd lv i t d ti at_ li ks ac ap al ak cc cp cl ck HRD.out)
    have FT:=hid (fun w=>rPlace_any kd par w)
    have CI:=hid (fun wx (hb:Below wi.heap.size wi wx) hf=>rItself_any wx kd lv i t d ti at_ li ks ac ap al ak cc cp cl ck (HRD.out.up hb) hbs hf)
    have CK:=hid (fun wx (hb:Below wi.heap.size wi wx)=>IH.out (Blk.szL ks) (by omega) ks kd (dp+1) ak ck wx (Nat.le_refl _) (by omega) hks (HRD.out.up hb).kids)
    simp only [Int.natCast_add,Int.natCast_one] at CK
    have p0:=KB.out.cell 0 _ rfl
    have p1:=KB.out.cell 1 _ rfl
    have p2:=KB.out.cell 2 _ rfl
    have p3:=KB.out.cell 3 _ rfl
    have p4:=KB.out.cell 4 _ rfl
    have p5:=KB.out.cell 5 _ rfl
    have p6:=KB.out.cell 6 _ rfl
    have p7:=KB.out.cell 7 _ rfl
    have p8:=KB.out.cell 8 _ rfl
    have p9:=KB.out.cell 9 _ rfl
    have p10:=KB.out.cell 10 _ rfl
    clear hsz hbs hks herr h15
    cases hf:q0q kd lv i t d ti at_ li ks with
    | false=>
     rw [hf] at IFD
     have HE:Hid (E=5):=by
      show E=5
      have:=HERR.out
      rw [if_pos (.inl hf)] at this;exact this.symm
     clear hf
     go_wp2_with fail
     refine IFD.out.mono ?_
     rintro e w2 ⟨rfl,hb2⟩
     have B2:=hid (q01 BI.out hb2)
     clear hb2
     go_wp2
     go_ret
     exact ⟨by rw [HE.out];rfl,B2.out⟩
    | true=>
     rw [hf] at IFD
     cases hpl:placeB kd par with
     | false=>
      rw [hpl] at FT
      have HE:Hid (E=5):=by
       show E=5
       have:=HERR.out
       rw [if_pos (.inr hpl)] at this;exact this.symm
      clear hf hpl
      go_wp2_with fail
      refine IFD.out.mono ?_
      rintro e w2 ⟨rfl,hb2⟩
      have B2:=hid (q01 BI.out hb2)
      have k2:=KB.out.below hb2
      clear p0 hb2
      have p0:=k2.cell 0 _ rfl
      clear k2
      go_wp2_with fail
      refine (FT.out _).mono ?_
      rintro e w3 ⟨rfl,rfl⟩
      go_wp2
      go_ret
      exact ⟨by rw [HE.out];rfl,B2.out⟩
     | true=>
      rw [hpl] at FT
      have HERR3:Hid ((if q1z q0i kd lv i t d ti at_ li ks≠0 then q1z q0i kd lv i t d ti at_ li ks else if Blk.errL q0i kd (dp+1) ks≠0 then Blk.errL q0i kd (dp+1) ks else Blk.errL q0i par dp (l.drop (k+1)))=E):=by
       show _=_
       have:=HERR.out
       rw [if_neg (by rw [hf,hpl];simp)] at this;exact this
      have CI2:=hid (fun wx hb=>CI.out wx hb hf)
      clear hf hpl HERR CI
      generalize q1z q0i kd lv i t d ti at_ li ks=E1 at *
      generalize Blk.errL q0i kd (dp+1) ks=E2 at *
      go_wp2_with fail
      refine IFD.out.mono ?_
      rintro e w2 ⟨rfl,hb2⟩
      have k2:=KB.out.below hb2
      have B2:=hid hb2
      clear p0 p1 p2 p3 p4 p5 p6 p7 p8 p9 p10 hb2
      have p0:=k2.cell 0 _ rfl
      have p1:=k2.cell 1 _ rfl
      have p2:=k2.cell 2 _ rfl
      have p3:=k2.cell 3 _ rfl
      have p4:=k2.cell 4 _ rfl
      have p5:=k2.cell 5 _ rfl
      have p6:=k2.cell 6 _ rfl
      have p7:=k2.cell 7 _ rfl
      have p8:=k2.cell 8 _ rfl
      have p9:=k2.cell 9 _ rfl
      have p10:=k2.cell 10 _ rfl
      have K2:=hid k2
      clear k2
      go_wp2_with fail
      refine (FT.out _).mono ?_
      rintro e w3 ⟨rfl,rfl⟩
      go_wp2_with fail
      refine (CI2.out _ B2.out).mono ?_
      rintro e w4 ⟨rfl,hb4⟩
      have B4:=hid (q01 B2.out hb4)
      have k4:=K2.out.below hb4
      clear p0 p1 p2 p3 p4 p5 p6 p7 p8 p9 p10 hb4
      have p0:=k4.cell 0 _ rfl
      have p10:=k4.cell 10 _ rfl
      clear k4
      by_cases h1:E1=0
      ·have HE3:Hid ((if E2≠0 then E2 else Blk.errL q0i par dp (l.drop (k+1)))=E):=by
        show _=_
        have:=HERR3.out
        rw [if_neg (by simpa using h1)] at this;exact this
       subst h1
       clear HERR3
       go_wp2_with fail
       refine (CK.out _ B4.out).mono ?_
       rintro e w5 ⟨rfl,hb5⟩
       have B5:=hid (q01 B4.out hb5)
       clear hb5
       by_cases h2:E2=0
       ·have HE4:Hid (Blk.errL q0i par dp (l.drop (k+1))=E):=by
         show _=_
         have:=HE3.out
         rw [if_neg (by simpa using h2)] at this;exact this
        subst h2
        go_wp2
        go_roundw
        case rel=>exact ⟨k+1,by omega,by go_num,q01 BI.out B5.out,HE4.out⟩
        case measure=>simp [intOf];omega
       ·have HE4:Hid (E=E2):=by
         show _=_
         have:=HE3.out
         rw [if_pos h2] at this;exact this.symm
        have hn2:((E2:Int) != 0)=true:=by rw [bne_iff_ne];omega
        clear h2
        go_wp2
        go_ret
        exact ⟨by rw [HE4.out];rfl,q01 BI.out B5.out⟩
      ·have HE3:Hid (E=E1):=by
        show _=_
        have:=HERR3.out
        rw [if_pos h1] at this;exact this.symm
       have hn1:((E1:Int) != 0)=true:=by rw [bne_iff_ne];omega
       clear h1
       go_wp2
       go_ret
       exact ⟨by rw [HE3.out];rfl,q01 BI.out B4.out⟩
   ·have HE:Hid (E=0):=by
     show E=0
     rw [<- herr,List.drop_of_length_le (by omega),Blk.errL]
    clear herr hbel
    go_wp2
    go_ret
    exact ⟨by rw [HE.out];rfl,HB.out⟩
theorem rBlocks_any (l:List Blk) (a:Option Addr) (cap:Nat) (w:World) (hsm:Blk.smallL l) (h:Rd (·<w.heap.size) w (q0x l) [.slice a l.length cap]) :
  Calls Tryz.prog 44 #[.slice a l.length cap] w (RetB (.int .i64 (Blk.errL q0i 0 0 l:Nat)) w):=by
 have CK:=hid (rBlocks0_any _ l 0 0 a cap w (Nat.le_refl _) (by omega) hsm h)
 generalize Blk.errL q0i 0 0 l=E at *
 clear h hsm
 go_enter Tryz.func44,Tryz.ntmps44
 go_wp2_with fail
 refine CK.out.mono ?_
 rintro e w1 ⟨rfl,hb⟩
 go_wp2
 go_ret
 exact ⟨rfl,hb⟩
def DkRel (T:TypeId) (p:Nat) (cs:List Value) (w:World) (l:List Pr) (E:Nat) (vi:Value) (wr:World):Prop:=
 ∃ k:Nat,k<=l.length/\vi=.int .i64 k/\CB T p cs wr/\Below w.heap.size w wr/\metErr ((l.take k).map Pr.key) (l.drop k)=E
def DkIn (K:List ByteArray) (key:ByteArray) (wl:World) (n:Nat) (vj:Value) (wx:World):Prop:=
 ∃ j q:Nat,j<=n/\vj=.int .i64 j/\q1d (K.take j) key=false/\wx=wl.drewN q
theorem rCheck_any (me:List Pr) (l:List Blk) (am ab:Option Addr) (cm nb cb:Nat) (w:World) (hme:me.length<=1000) (hmets:∀ p∈me,p.key.size<=1000/\p.val.size<=1000)
  (hall:Blk.allL l<=32768) (hsm:Blk.smallL l)
  (h1:Rd (·<w.heap.size) w (prsD me) [.slice am me.length cm]) (h2:Rd (·<w.heap.size) w (q0x l) [.slice ab nb cb]) :
  Calls Tryz.prog 15 #[.agg #[.slice am me.length cm,.slice ab nb cb]] w (RetB (.int .i64 (docErr q0i me l:Nat)) w):=by
 obtain ⟨a1,c1,hv1,hs1⟩:=Rd.sl_open h1
 obtain ⟨rfl,rfl⟩:a1=am/\c1=cm:=by simp at hv1;exact ⟨hv1.1.symm,hv1.2.symm⟩
 obtain ⟨a2,c2,hv2,hs2⟩:=Rd.sl_open h2
 obtain ⟨rfl,rfl,rfl⟩:a2=ab/\nb=l.length/\c2=cb:=by simp at hv2;exact ⟨hv2.1.symm,hv2.2.1,hv2.2.2.symm⟩
 have l1:me.length<=c1:=by simpa using hs1.le
 have m1:=hs1.max
 unfold maxLen at m1
 have HS1:=hid hs1
 have SP:=hid hmets
 have HB:=hid h2
 have SM:=hid hsm
 obtain ⟨V,hV⟩:∃ V,V=docErr q0i me l:=⟨_,rfl⟩
 have HE:Hid (V=docErr q0i me l):=hV
 have HAL:=hid hall
 rw [<- hV]
 clear hV hs1 hmets h2 hsm h1 hv1 hv2 hall hs2
 obtain ⟨w0,hw0⟩:∃ w0,w0=w.alloc (.cells #[.slice a1 me.length c1,.slice a2 l.length c2] 25):=⟨_,rfl⟩
 have hb0:Below w.heap.size w w0:=by rw [hw0];exact (Below.refl _ _).alloc (Nat.le_refl _) _
 have k1:CB 25 w.heap.size [.slice a1 me.length c1,.slice a2 l.length c2] w0:=by rw [hw0];exact CB.new _ _ _
 have SZ:=hid (rSize_any l a1 a2 me.length c1 l.length c2 w0 (by have:=HAL.out;omega) (HB.out.up hb0))
 have x0:=k1.cell 0 _ rfl
 have x1:=k1.cell 1 _ rfl
 have HK:=hid k1
 have HB0:=hid hb0
 have hall:=HAL.out
 obtain ⟨N,hN⟩:∃ N,N=Blk.allL l:=⟨_,rfl⟩
 have HN:Hid (N=Blk.allL l):=hN
 rw [<- hN] at SZ hall
 have hb3:decide ((32768:Int)<(N:Int))=false:=by simp;omega
 clear k1 hb0 hN hall
 go_enter Tryz.func15,Tryz.ntmps15
 go_upto_region 1 with (fail)
 rw [<- hw0]
 clear hw0
 go_wp2_with fail
 refine SZ.out.mono ?_
 rintro e w1 ⟨rfl,b1⟩
 have K1:=hid (HK.out.below b1)
 have B1:=hid (q01 HB0.out b1)
 clear x0 x1 SZ b1
 have x0:=K1.out.cell 0 _ rfl
 have x1:=K1.out.cell 1 _ rfl
 by_cases hml:64<me.length
 ·have q1:decide ((64:Int)<(me.length:Int))=true:=by simp;omega
  have HV:Hid (V=3):=by show V=3;rw [HE.out,docErr,if_pos (.inr hml)]
  go_wp2
  go_ret
  exact ⟨by rw [HV.out];rfl,B1.out⟩
 have q1:decide ((64:Int)<(me.length:Int))=false:=by simp;omega
 have HE2:Hid (V=if metErr [] me≠0 then metErr [] me else Blk.errL q0i 0 0 l):=by
  show V=_
  rw [HE.out,docErr,if_neg (by have:=HAL.out;omega)]
 have R0:Hid (DkRel 25 w.heap.size [.slice a1 me.length c1,.slice a2 l.length c2] w me (metErr [] me) (.int .i64 0) w1):=⟨0,Nat.zero_le _,rfl,K1.out,B1.out,rfl⟩
 obtain ⟨E1,hE1⟩:∃ E1,E1=metErr [] me:=⟨_,rfl⟩
 rw [<- hE1] at HE2 R0
 clear hE1 hml
 go_wp2
 clear x0 x1
 go_loopw [3] (fun i wr=>DkRel 25 w.heap.size [.slice a1 me.length c1,.slice a2 l.length c2] w me E1 i wr) (fun i _=>me.length-(intOf i).toNat)
 case atStart=>exact R0.out
 case round=>
  clear R0
  obtain ⟨k,hk,rfl,hcb,hbel,herr⟩:=hrel
  have x0:=hcb.cell 0 _ rfl
  have x1:=hcb.cell 1 _ rfl
  have HCB:=hid hcb
  have HBL:=hid hbel
  by_cases hlt:k<me.length
  ·obtain ⟨x,hx⟩:∃ x,me[k]?=some x:=⟨_,List.getElem?_eq_getElem hlt⟩
   obtain ⟨b,off,rfl,-,-,c0,c1'⟩:=prs_at HS1.out hx
   have c0:wr.cell? ⟨b,off+k*2,none⟩=some (.string x.key):=by rw [hbel.cell (p:=⟨b,off+k*2,none⟩) (q0c c0)];exact c0
   have c1':wr.cell? ⟨b,off+k*2+1,none⟩=some (.string x.val):=by rw [hbel.cell (p:=⟨b,off+k*2+1,none⟩) (q0c c1')];exact c1'
   have hxs:=SP.out x (List.mem_of_getElem? hx)
   have HERR:Hid (metErr ((me.take k).map Pr.key) (x::me.drop (k+1))=E1):=by show _=_;rw [<- q0s me k x hx];exact herr
   have HTK:Hid ((me.take (k+1)).map Pr.key=(me.take k).map Pr.key++[x.key]):=by show _=_;rw [List.take_add_one,hx];simp
   obtain ⟨key,val⟩:=x
   dsimp only at c0 c1' hxs HTK
   have CN:=hid (fun w=>q23 key w (by omega))
   have CV:=hid (fun w=>q22 val w (by omega))
   have CT:=hid (fun w=>rTrim_any val w (by omega))
   obtain ⟨wi,hwi⟩:∃ wi,wi=wr.alloc (.cells #[.string key,.string val] 58):=⟨_,rfl⟩
   have bi:Below wr.heap.size wr wi:=by rw [hwi];exact (Below.refl _ _).alloc (Nat.le_refl _) _
   have kp:CB 58 wr.heap.size [.string key,.string val] wi:=by rw [hwi];exact CB.new _ _ _
   have HKP:=hid kp
   have KD:=hid (HCB.out.below bi)
   have BI:=hid (q01 HBL.out bi)
   have i0:=kp.cell 0 _ rfl
   have i1:=kp.cell 1 _ rfl
   clear herr hx hbel hcb bi kp
   go_upto_region 7 with (fail)
   rw [<- hwi]
   clear hwi c0 c1' x0 x1
   cases hn:q0a key with
   | false=>
    rw [hn] at CN
    have HV:Hid (V=6):=by
     show V=6
     have:=HERR.out
     rw [metErr,if_pos hn] at this
     rw [HE2.out,<- this];rfl
    clear hn
    go_wp2_with fail
    refine (CN.out _).mono ?_
    rintro e w3 ⟨rfl,rfl⟩
    go_wp2
    go_ret
    exact ⟨by rw [HV.out];rfl,BI.out⟩
   | true=>
    rw [hn] at CN
    cases hln:q0d val with
    | false=>
     rw [hln] at CV
     have HV:Hid (V=17):=by
      show V=17
      have:=HERR.out
      rw [metErr,if_neg (by rw [hn];decide),if_pos (.inl hln)] at this
      rw [HE2.out,<- this];rfl
     clear hn hln
     go_wp2_with fail
     refine (CN.out _).mono ?_
     rintro e w3 ⟨rfl,rfl⟩
     go_wp2_with fail
     refine (CV.out _).mono ?_
     rintro e w3 ⟨rfl,hb3⟩
     have B3:=hid (q01 BI.out hb3)
     clear hb3
     go_wp2
     go_ret
     exact ⟨by rw [HV.out];rfl,B3.out⟩
    | true=>
     rw [hln] at CV
     cases htr:trimS val with
     | false=>
      rw [htr] at CT
      have HV:Hid (V=17):=by
       show V=17
       have:=HERR.out
       rw [metErr,if_neg (by rw [hn];decide),if_pos (.inr htr)] at this
       rw [HE2.out,<- this];rfl
      clear hn hln htr
      go_wp2_with fail
      refine (CN.out _).mono ?_
      rintro e w3 ⟨rfl,rfl⟩
      go_wp2_with fail
      refine (CV.out _).mono ?_
      rintro e w3 ⟨rfl,hb3⟩
      have B3:=hid (q01 BI.out hb3)
      have k3:=HKP.out.below hb3
      clear hb3 i0 i1
      have i0:=k3.cell 0 _ rfl
      have i1:=k3.cell 1 _ rfl
      clear k3
      go_wp2_with fail
      refine (CT.out _).mono ?_
      rintro e w4 ⟨rfl,rfl⟩
      go_wp2
      go_ret
      exact ⟨by rw [HV.out];rfl,B3.out⟩
     | true=>
      rw [htr] at CT
      have hor:¬ (q0d val=false\/trimS val=false):=by rw [hln,htr];decide
      have HERR2:Hid ((if q1d ((me.take k).map Pr.key) key=true then 7 else metErr ((me.take (k+1)).map Pr.key) (me.drop (k+1)))=E1):=by
       show _=_
       have:=HERR.out
       rw [metErr,if_neg (by rw [hn];decide),if_neg hor] at this
       rw [HTK.out];exact this
      clear hn hln htr hor HERR
      go_wp2_with fail
      refine (CN.out _).mono ?_
      rintro e w3 ⟨rfl,rfl⟩
      go_wp2_with fail
      refine (CV.out _).mono ?_
      rintro e w3 ⟨rfl,hb3⟩
      have B3:=hid (q01 BI.out hb3)
      have K3P:=hid (HKP.out.below hb3)
      have K3D:=hid (KD.out.below hb3)
      clear hb3 i0 i1
      have i0:=K3P.out.cell 0 _ rfl
      have i1:=K3P.out.cell 1 _ rfl
      have x0:=K3D.out.cell 0 _ rfl
      go_wp2_with fail
      refine (CT.out _).mono ?_
      rintro e w4 ⟨rfl,rfl⟩
      obtain ⟨KS,hKS⟩:∃ KS,KS=(me.take k).map Pr.key:=⟨_,rfl⟩
      have hKl:KS.length=k:=by rw [hKS];simp;omega
      have HKG:Hid (∀ j,j<k->∃ p,me[j]?=some p/\KS[j]?=some p.key):=by
       intro j hj
       obtain ⟨p,hp⟩:∃ p,me[j]?=some p:=⟨_,List.getElem?_eq_getElem (by omega)⟩
       exact ⟨p,hp,by rw [hKS,List.getElem?_map,List.getElem?_take,if_pos hj,hp];rfl⟩
      rw [<- hKS] at HERR2
      have RI:Hid (DkIn KS key w3 k (.int .i64 0) w3):=⟨0,0,Nat.zero_le _,rfl,rfl,rfl⟩
      clear hKS i1
      go_wp2
      go_loopw [5] (fun vj wx=>DkIn KS key w3 k vj wx) (fun vj _=>k-(intOf vj).toNat)
      case atStart=>exact RI.out
      case round=>
       clear RI
       obtain ⟨j,q,hj,rfl,hno,rfl⟩:=hrel
       have HNO:=hid hno
       clear hno
       by_cases hjl:j<k
       ·obtain ⟨p,hp,hKp⟩:=HKG.out j hjl
        obtain ⟨b',off',hbe,-,-,d0,-⟩:=prs_at HS1.out hp
        obtain ⟨rfl,rfl⟩:b=b'/\off=off':=by simpa using hbe
        have d0:w3.cell? ⟨b,off+j*2,none⟩=some (.string p.key):=by rw [B3.out.cell (p:=⟨b,off+j*2,none⟩) (q0c d0)];exact d0
        obtain ⟨y,val'⟩:=p
        dsimp only at d0 hKp
        have hsn:=hasB_snoc KS j y key hKp
        rw [HNO.out] at hsn
        have HSN:=hid hsn
        have HT:=hid (hasB_take KS (j+1) key)
        clear hp hKp hsn hbe
        by_cases hyx:y=key
        ·subst hyx
         have e1:(y.toList==y.toList)=true:=beq_self_eq_true _
         have HV:Hid (V=7):=by
          show V=7
          have:=HERR2.out
          rw [if_pos (HT.out (by rw [HSN.out];simp))] at this
          rw [HE2.out,<- this];rfl
         go_wp2_with fail
         go_quiet (fail)
         go_wp2
         go_ret
         exact ⟨by rw [HV.out];rfl,q03 (q03 B3.out q) _⟩
        ·have e1:=str_ne hyx
         go_wp2_with fail
         go_quiet (fail)
         go_wp2
         go_roundw
         case rel=>exact ⟨j+1,_,by omega,by go_num,(by rw [HSN.out];simp [hyx]),rfl⟩
         case measure=>simp [intOf];omega
       ·have hjk:j=KS.length:=by omega
        have hN:=HNO.out
        rw [hjk,List.take_length] at hN
        have HN2:Hid (metErr ((me.take (k+1)).map Pr.key) (me.drop (k+1))=E1):=by
         show _=_
         have:=HERR2.out
         rw [hN,if_neg (by decide)] at this;exact this
        clear hjk hN
        go_wp2
        go_roundw
        case rel=>exact ⟨k+1,by omega,by go_num,K3D.out.dN q,q03 B3.out q,HN2.out⟩
        case measure=>simp [intOf];omega
  ·obtain rfl:k=me.length:=by omega
   have HV:Hid (V=Blk.errL q0i 0 0 l):=by
    show V=_
    rw [List.drop_length,metErr] at herr
    rw [HE2.out,<- herr];rfl
   have TB:=hid (rBlocks_any l a2 c2 wr SM.out (HB.out.up hbel))
   rw [<- HV.out] at TB
   clear herr hbel hcb hk hlt
   go_wp2_with fail
   refine TB.out.mono ?_
   rintro e w4 ⟨rfl,b4⟩
   go_wp2
   go_ret
   exact ⟨rfl,q01 HBL.out b4⟩
end Go.Proofs.YtlbioncagkkkoaaGreatDoor
