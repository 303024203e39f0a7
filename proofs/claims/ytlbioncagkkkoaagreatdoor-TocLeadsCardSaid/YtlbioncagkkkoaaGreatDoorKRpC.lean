/- Contracts of publisherref03.word from any index, value, hasKey at a row of one's own. Contracts of publisherref03.class, item: attributes that are handed by value, their rows of one's own. The contract of publisherref03.Parse. -/
import Derived.Test.YtlbioncagkkkoaaGreatDoorKPaG
import Derived.Test.YtlbioncagkkkoaaGreatDoorKRfD
import Derived.BigGuard
set_option maxHeartbeats 4000000
set_option maxRecDepth 100000
open Go.Lib (hid)
namespace Go.Proofs.YtlbioncagkkkoaaGreatDoor
open Go.RowKit
set_option linter.unusedVariables false
set_option linter.unusedSimpArgs false
theorem rWordI_any (s:ByteArray) (i0:Nat) (w:World) (hs:s.size<=1000000000) (hi:i0<=s.size) :
  Calls Tryz.prog 77 #[.string s,.int .i64 i0] w fun e w'=>e=.returned (.int .i64 (q1u s i0:Nat))/\w=w':=by
 obtain ⟨V,hV⟩:∃ V,V=q1u s i0:=⟨_,rfl⟩
 rw [<- hV]
 have HV:=hid hV
 clear hV
 go_enter Tryz.func77,Tryz.ntmps77
 go_wp2
 go_loop [1] (fun vi=>∃ k:Nat,i0+k<=s.size/\vi=.int .i64 ((i0+k:Nat):Int)/\∀ j x,j<k->(frm s i0)[j]?=some x->nmB x=true) (fun i=>s.size-(intOf i).toNat)
 case atStart=>exact ⟨0,hi,rfl,fun j x hj=>by omega⟩
 case round=>
  obtain ⟨k,hk,rfl,hall⟩:=hrel
  have HA:=hid hall
  obtain ⟨q,hq⟩:∃ q,q=i0+k:=⟨_,rfl⟩
  rw [<- hq] at hk ⊢
  have HQ:=hid hq
  have hlk:k<=(frm s i0).length:=by rw [frm_len];omega
  clear hall hq
  by_cases hlt:q<s.size
  ·have hgl:=UInt8.toNat_lt s[q]
   have IN:=hid (fun w=>rPart_any s[q].toNat w hgl)
   have HG:Hid ((frm s i0)[k]?=some s[q]):=by
    show _=_
    unfold frm
    rw [List.getElem?_drop]
    have h1:=q12 s q hlt
    have h2:i0+k=q:=HQ.out.symm
    rw [h2];exact h1
   cases hn:nmC s[q].toNat with
   | true=>
    rw [hn] at IN
    have HN:=hid hn
    clear hn
    go_wp2_with fail
    refine (IN.out _).mono ?_
    rintro e w1 ⟨rfl,rfl⟩
    go_wp2
    go_round
    case rel=>
     refine ⟨k+1,by have:=HQ.out;omega,by have:=HQ.out;congr 1;omega,fun j x hj hx=>?_⟩
     rcases Nat.lt_or_ge j k with h | h
     ·exact HA.out j x h hx
     ·have:j=k:=by omega
      subst this
      rw [HG.out] at hx
      obtain rfl:=Option.some.inj hx
      exact HN.out
    case measure=>simp [intOf];omega
   | false=>
    rw [hn] at IN
    have hw:V=q:=by
     rw [HV.out]
     unfold q1u
     rw [tw_len nmB _ k hlk HA.out (fun x hx=>by rw [HG.out] at hx;obtain rfl:=Option.some.inj hx;exact hn)]
     exact HQ.out.symm
    have HW:=hid hw
    clear hn hw
    go_wp2_with fail
    refine (IN.out _).mono ?_
    rintro e w1 ⟨rfl,rfl⟩
    go_wp2
    go_ret
    exact ⟨by rw [HW.out];rfl,rfl⟩
  ·have hw:V=q:=by
    rw [HV.out]
    unfold q1u
    rw [tw_len nmB _ k hlk HA.out (fun x hx=>?_)]
    ·exact HQ.out.symm
    ·have:=(List.getElem?_eq_some_iff.1 hx).1
     rw [frm_len] at this
     have:=HQ.out
     omega
   have HW:=hid hw
   clear hw
   go_wp2
   go_ret
   exact ⟨by rw [HW.out];rfl,rfl⟩
def Rv3Post (s:ByteArray) (i:Nat) (w:World) (e:Ending) (w':World):Prop:=
 (∃ (v:ByteArray) (n:Int) (b:Bool),e=.returned (.tuple #[.string v,.int .i64 n,.bool b])/\((b=true/\∃ q:Nat,q<=s.size/\n=q/\q2l (frm s i)=some (v,frm s q))\/(b=false/\q2l (frm s i)=none)))/\Below w.heap.size w w'
def Rv3Rel (s:ByteArray) (R:Option (List UInt8 × List UInt8)) (w:World) (vi vo:Value) (wr:World):Prop:=
 ∃ (i:Nat) (acc:List UInt8),i<=s.size/\vi=.int .i64 i/\vo=.string (bsOf acc)/\quoteL (frm s i) acc=R/\acc.length<=i/\w=wr
theorem bs_snoc (acc:List UInt8) (s:ByteArray) (i:Nat) (h:i<s.size):bsOf acc++s.extract i (i+1)=bsOf (acc++[s[i]]):=by
 apply ByteArray.ext
 apply Array.toList_inj.1
 unfold bsOf
 rw [ByteArray.data_append,Array.toList_append,ByteArray.data_extract,Array.toList_extract]
 have h1:i<s.data.toList.length:=by simpa using h
 have h2:s.data.toList.extract i (i+1)=[s[i]]:=by
  rw [List.extract_eq_take_drop,List.drop_eq_getElem_cons h1,show i+1-i=1 by omega]
  rfl
 rw [h2]
theorem rValue_any (s:ByteArray) (i0:Nat) (w:World) (hs:s.size<=1000000) (hi:i0<=s.size) :
  Calls Tryz.prog 252 #[.string s,.int .i64 i0] w (Rv3Post s i0 w):=by
 by_cases hq:i0<s.size/\bt s i0=34
 case neg=>
  have WE:=hid (fun w=>rWordI_any s i0 w (by omega) hi)
  have hwl:=wEndI_le s i0 hi
  have hwg:i0<=q1u s i0:=Nat.le_add_right _ _
  have hhd:(frm s i0).head?≠some 34:=by
   intro h
   rcases Nat.lt_or_ge i0 s.size with h1 | h1
   ·rw [frm_head s i0 h1] at h
    have h2:s[i0]=34:=Option.some.inj h
    exact hq ⟨h1,by rw [<- q16 s i0 h1,h2];rfl⟩
   ·rw [frm_end s i0 h1] at h;cases h
  have HVL:Hid (q2l (frm s i0)=if q0a (s.extract i0 (q1u s i0))=true then some (s.extract i0 (q1u s i0),frm s (q1u s i0)) else none):=by
   show _=_
   unfold q2l
   rw [if_neg hhd,word_text s i0 hi,frm_wEnd]
  have hvs:(s.extract i0 (q1u s i0)).size<=1000000000:=by rw [ByteArray.size_extract];omega
  have NM:=hid (fun w=>q23 (s.extract i0 (q1u s i0)) w hvs)
  generalize q1u s i0=T at *
  have HFIN:Hid (q0a (s.extract i0 T)=true->Rv3Post s i0 w (.returned (.tuple #[.string (s.extract i0 T),.int .i64 (T:Int),.bool true])) w):=by
   intro hn
   exact ⟨⟨_,_,_,rfl,.inl ⟨rfl,T,hwl,rfl,by rw [HVL.out,if_pos hn]⟩⟩,Below.refl _ _⟩
  have HFAIL:Hid (q0a (s.extract i0 T)=false->Rv3Post s i0 w (.returned (.tuple #[.string ⟨#[]⟩,.int .i64 0,.bool false])) w):=by
   intro hn
   exact ⟨⟨_,_,_,rfl,.inr ⟨rfl,by rw [HVL.out,if_neg (by rw [hn];decide)]⟩⟩,Below.refl _ _⟩
  have hc:(s.size<=i0)\/(i0<s.size/\bt s i0≠34):=by omega
  have q3:decide ((s.size:Int)<(i0:Int))=false:=by simp;omega
  clear hhd hvs hq
  generalize q0a (s.extract i0 T)=NX at *
  rcases hc with hc | ⟨hc,hb⟩
  ·have q1:decide ((s.size:Int)<=(i0:Int))=true:=by simp;omega
   cases NX
   all_goals
    go_enter Tryz.func252,Tryz.ntmps252
    go_wp2_with fail
    refine (WE.out _).mono ?_
    rintro e w1 ⟨rfl,rfl⟩
    go_wp2_with fail
    refine (NM.out _).mono ?_
    rintro e w2 ⟨rfl,rfl⟩
    go_wp2
    go_ret3
    first | exact HFIN.out (by simp) | exact HFAIL.out (by simp)
  ·have q1:decide ((s.size:Int)<=(i0:Int))=false:=by simp;omega
   have q2:((s[i0].toNat:Int) != 34)=true:=by rw [q16 s i0 hc,bne_iff_ne];omega
   cases NX
   all_goals
    go_enter Tryz.func252,Tryz.ntmps252
    go_wp2_with fail
    refine (WE.out _).mono ?_
    rintro e w1 ⟨rfl,rfl⟩
    go_wp2_with fail
    refine (NM.out _).mono ?_
    rintro e w2 ⟨rfl,rfl⟩
    go_wp2
    go_ret3
    first | exact HFIN.out (by simp) | exact HFAIL.out (by simp)
 case pos=>
  obtain ⟨hlt0,hb0⟩:=hq
  have hcons:=q1l s i0 hlt0
  have h34:s[i0]=34:=by rw [<- UInt8.toNat_inj,q16 s i0 hlt0];exact hb0
  have HVL:Hid (q2l (frm s i0)=match quoteL (frm s (i0+1)) [] with
   | none=>none
   | some (v,r)=>if q0d (bsOf v)=true then some (bsOf v,r) else none):=by
   show _=_
   unfold q2l
   rw [hcons,h34]
   rfl
  obtain ⟨R,hR⟩:∃ R,R=quoteL (frm s (i0+1)) []:=⟨_,rfl⟩
  rw [<- hR] at HVL
  have q1:decide ((s.size:Int)<=(i0:Int))=false:=by simp;omega
  have q2:((s[i0].toNat:Int) != 34)=false:=by rw [q16 s i0 hlt0,hb0];rfl
  have R0:Hid (Rv3Rel s R w (.int .i64 ((i0+1:Nat):Int)) (.string ⟨#[]⟩) w):=⟨i0+1,[],by omega,rfl,rfl,hR.symm,Nat.zero_le _,rfl⟩
  clear hcons h34 hR hb0
  go_enter Tryz.func252,Tryz.ntmps252
  (try simp only [List.append_eq,List.cons_append,List.nil_append])
  go_wp2
  have q0:decide (s.size<=i0)=false:=by simp;omega
  simp only [q0]
  clear q0
  go_loopw [1,8] (fun vi vo wr=>Rv3Rel s R w vi vo wr) (fun i _ _=>s.size-(intOf i).toNat)
  case atStart=>exact R0.out
  case round=>
   clear R0 q1 q2
   obtain ⟨i,acc,hi,rfl,rfl,hqv,hal,rfl⟩:=hrel
   have HQV:=hid hqv
   have has:(bsOf acc).size=acc.length:=List.size_toArray
   clear hqv
   by_cases hlt:i<s.size
   ·have hcn:=q1l s i hlt
    have eb:=q16 s i hlt
    have g1:decide ((s.size:Int)<=(i:Int))=false:=by simp;omega
    by_cases h34:s[i]=34
    ·have q3:((s[i].toNat:Int) != 34)=false:=by rw [h34];rfl
     have HRV:Hid (R=some (acc,frm s (i+1))):=by
      show R=_
      rw [<- HQV.out,hcn,quoteL.eq_def]
      simp only
      rw [if_pos h34]
     have CV:=hid (fun w=>rLine3_any (bsOf acc) w (by omega))
     have HFIN:Hid (q0d (bsOf acc)=true->∀ w',Below w.heap.size w w'->Rv3Post s i0 w (.returned (.tuple #[.string (bsOf acc),.int .i64 ((i:Int)+1),.bool true])) w'):=by
      intro hl w' hw'
      refine ⟨⟨_,_,_,rfl,.inl ⟨rfl,i+1,by omega,by simp,?_⟩⟩,hw'⟩
      rw [HVL.out,HRV.out]
      simp [hl]
     have HFAIL:Hid (q0d (bsOf acc)=false->∀ w',Below w.heap.size w w'->Rv3Post s i0 w (.returned (.tuple #[.string ⟨#[]⟩,.int .i64 0,.bool false])) w'):=by
      intro hl w' hw'
      refine ⟨⟨_,_,_,rfl,.inr ⟨rfl,?_⟩⟩,hw'⟩
      rw [HVL.out,HRV.out]
      simp [hl]
     clear hcn h34 eb
     generalize q0d (bsOf acc)=LL at *
     cases LL
     all_goals
      go_wp2_with fail
      refine (CV.out _).mono ?_
      rintro e w3 ⟨rfl,hb3⟩
      go_wp2
      go_ret3
      first | exact HFIN.out (by simp) _ hb3 | exact HFAIL.out (by simp) _ hb3
    ·have q3:((s[i].toNat:Int) != 34)=true:=by
      rw [bne_iff_ne]
      intro e
      exact h34 (by rw [<- UInt8.toNat_inj];show _=34;omega)
     by_cases h92:s[i]=92
     ·have q4:((s[i].toNat:Int)==92)=true:=by rw [h92];rfl
      by_cases hlt2:i+1<s.size
      ·have hcn2:=q1l s (i+1) hlt2
       have hgl:=UInt8.toNat_lt s[i+1]
       have q5:decide ((s.size:Int)<=(i:Int)+1)=false:=by simp;omega
       have hsn:=bs_snoc acc s (i+1) hlt2
       by_cases hd:s[i+1]=34\/s[i+1]=92
       ·have HQ2:Hid (quoteL (frm s (i+1+1)) (acc++[s[i+1]])=R):=by
         show _=R
         rw [<- HQV.out,hcn,hcn2]
         conv=>rhs;rw [quoteL.eq_def]
         simp only
         rw [if_neg h34,if_pos h92,if_pos hd]
        have hde:((s[i+1].toNat:Int) != 34)=false\/(((s[i+1].toNat:Int) != 34)=true/\((s[i+1].toNat:Int) != 92)=false):=by
         by_cases he:s[i+1]=34
         ·left;rw [he];rfl
         ·right
          refine ⟨?_,by rw [hd.resolve_left he];rfl⟩
          rw [bne_iff_ne];intro e;exact he (by rw [<- UInt8.toNat_inj];show _=34;omega)
        have HSN:=hid hsn
        clear hcn hcn2 hd h34 h92 eb hsn
        rcases hde with q6 | ⟨q6,q7⟩
        all_goals
         go_wp2
         go_roundw
         case rel=>exact ⟨i+1+1,acc++[s[i+1]],(by omega),(by go_num),(by rw [<- HSN.out]),HQ2.out,(by simp;omega),rfl⟩
         case measure=>simp [intOf];omega
       ·have HRV:Hid (q2l (frm s i0)=none):=by
         show _=none
         have:R=none:=by
          rw [<- HQV.out,hcn,hcn2,quoteL.eq_def]
          simp only
          rw [if_neg h34,if_pos h92,if_neg hd]
         rw [HVL.out,this]
        have q6:((s[i+1].toNat:Int) != 34)=true:=by
         rw [bne_iff_ne];intro e;exact hd (.inl (by rw [<- UInt8.toNat_inj];show _=34;omega))
        have q7:((s[i+1].toNat:Int) != 92)=true:=by
         rw [bne_iff_ne];intro e;exact hd (.inr (by rw [<- UInt8.toNat_inj];show _=92;omega))
        clear hcn hcn2 hd h34 h92 eb hsn
        go_wp2
        go_ret3
        exact ⟨⟨_,_,_,rfl,.inr ⟨rfl,HRV.out⟩⟩,Below.refl _ _⟩
      ·have q5:decide ((s.size:Int)<=(i:Int)+1)=true:=by simp;omega
       have HRV:Hid (q2l (frm s i0)=none):=by
        show _=none
        have:R=none:=by
         rw [<- HQV.out,hcn,frm_end s (i+1) (by omega),quoteL.eq_def]
         simp only
         rw [if_neg h34,if_pos h92]
        rw [HVL.out,this]
       clear hcn h34 h92 eb
       go_wp2
       go_ret3
       exact ⟨⟨_,_,_,rfl,.inr ⟨rfl,HRV.out⟩⟩,Below.refl _ _⟩
     ·have q4:((s[i].toNat:Int)==92)=false:=by
       rw [beq_eq_false_iff_ne];intro e;exact h92 (by rw [<- UInt8.toNat_inj];show _=92;omega)
      have HQ2:Hid (quoteL (frm s (i+1)) (acc++[s[i]])=R):=by
       show _=R
       rw [<- HQV.out,hcn]
       conv=>rhs;rw [quoteL.eq_def]
       simp only
       rw [if_neg h34,if_neg h92]
      have HSN:=hid (bs_snoc acc s i hlt)
      clear hcn h34 h92 eb
      go_wp2
      go_roundw
      case rel=>exact ⟨i+1,acc++[s[i]],(by omega),(by go_num),(by rw [<- HSN.out]),HQ2.out,(by simp;omega),rfl⟩
      case measure=>simp [intOf];omega
   ·have hie:i=s.size:=by omega
    have g1:decide ((s.size:Int)<=(i:Int))=true:=by simp;omega
    have HRV:Hid (q2l (frm s i0)=none):=by
     show _=none
     have:R=none:=by rw [<- HQV.out,frm_end s i (by omega),quoteL.eq_def]
     rw [HVL.out,this]
    clear hie
    go_wp2
    go_ret3
    exact ⟨⟨_,_,_,rfl,.inr ⟨rfl,HRV.out⟩⟩,Below.refl _ _⟩
theorem rHasKeyO_any (l:List Pr) (x:ByteArray) (B:Nat) (v:Value) (w:World) (h:w.ownsRow B 58 2 v l.length (q2f l)) (hl:l.length<=100000) :
  Calls Tryz.prog 175 #[v,.string x] w fun e w'=>e=.returned (.bool (q1d (l.map Pr.key) x))/\w=w':=by
 obtain ⟨av,cv,rfl⟩:=q09 h
 obtain ⟨V,hV⟩:∃ V,V=q1d (l.map Pr.key) x:=⟨_,rfl⟩
 rw [<- hV]
 have H:=hid h
 have HV:=hid hV
 clear hV h
 go_enter Tryz.func175,Tryz.ntmps175
 go_wp2
 go_loop [5] (fun vi=>∃ k:Nat,k<=l.length/\vi=.int .i64 k/\V=q1d ((l.map Pr.key).drop k) x) (fun i=>l.length-(intOf i).toNat)
 case atStart=>exact ⟨0,Nat.zero_le _,rfl,HV.out⟩
 case round=>
  obtain ⟨k,hk,rfl,hv⟩:=hrel
  by_cases hlt:k<l.length
  ·obtain ⟨p,hp⟩:∃ p,l[k]?=some p:=⟨_,List.getElem?_eq_getElem hlt⟩
   obtain ⟨g,cap,hve,hcap⟩:=own_form H.out (by omega)
   obtain ⟨rfl,rfl⟩:av=some ⟨g,0,none⟩/\cv=cap:=by simpa using hve
   have c0:w.cell? ⟨g,k*2,none⟩=some (.string p.key):=by rw [H.out.cellAt (k*2) (by omega)];exact (prCells_get l k p hp).1
   rw [hasB_drop (l.map Pr.key) k p.key x (by rw [List.getElem?_map,hp];rfl)] at hv
   have HVK:=hid hv
   clear hv hp hve HV
   by_cases he:p.key=x
   ·subst he
    have q1:(p.key.toList==p.key.toList)=true:=beq_self_eq_true _
    go_wp2
    go_ret
    exact ⟨by rw [HVK.out];simp,rfl⟩
   ·have q1:(p.key.toList==x.toList)=false:=str_ne he
    have HVK2:Hid (V=q1d ((l.map Pr.key).drop (k+1)) x):=by show V=_;rw [HVK.out];simp [he]
    clear HVK he
    go_wp2
    go_round
    case rel=>exact ⟨k+1,by omega,by go_num,HVK2.out⟩
    case measure=>simp [intOf];omega
  ·have HVK:Hid (V=false):=by show V=false;rw [hv,List.drop_eq_nil_of_le (by simp;omega)];rfl
   clear hv HV
   go_wp2
   go_ret
   exact ⟨by rw [HVK.out];rfl,rfl⟩
open Go.RowKit
structure AvO (B:Nat) (a:At) (vc vp:Value) (w:World):Prop where
 cls:w.ownsRow B 9 1 vc a.cls.length (a.cls.map Value.string)
 prs:w.ownsRow B 58 2 vp a.prs.length (q2f a.prs)
 le:B<=w.heap.size
section
variable {B p:Nat} {a:At} {vc vp v1:Value} {w w1:World} {cs:List Value}
theorem AvO.below (h:AvO B a vc vp w) (hb:Below w.heap.size w w1):AvO B a vc vp w1:=
 ⟨q27 h.cls hb,q27 h.prs hb,Nat.le_trans h.le hb.size⟩
theorem AvO.off (h:AvO B a vc vp w) (hp:AB p cs w):vc.ownBlock≠some p/\vp.ownBlock≠some p:=by
 constructor
 ·intro e
  obtain ⟨c1,f1,e1⟩:=Lib.ownsRow_kind h.cls p e
  unfold AB at hp
  rw [e1] at hp
  simp at hp
 ·intro e
  obtain ⟨c1,f1,e1⟩:=Lib.ownsRow_kind h.prs p e
  unfold AB at hp
  rw [e1] at hp
  simp at hp
theorem own_setO {e:TypeId} {k n:Nat} {v:Value} {xs:List Value} (h:w.ownsRow B e k v n xs) (hp:v.ownBlock≠some p) (j:Nat) (u:Value):(w.setCell ⟨p,j,none⟩ u).ownsRow B e k v n xs:=by
 refine h.kept (row:=some p) ⟨rfl,rfl,rfl,by simp [World.setCell],fun i _ hne=>Below.heap_setCell w ⟨p,j,none⟩ u i (fun e=>hne (by rw [e]))⟩ ?_
 cases hv:v.ownBlock with
 | none=>exact .inl rfl
 | some g=>right;intro e;exact hp (by rw [hv];exact e)
theorem AvO.set (h:AvO B a vc vp w) (hp:AB p cs w) (j:Nat) (u:Value):AvO B a vc vp (w.setCell ⟨p,j,none⟩ u):=
 ⟨own_setO h.cls (h.off hp).1 j u,own_setO h.prs (h.off hp).2 j u,by simpa [World.setCell] using h.le⟩
theorem AvO.apart (h:AvO B a vc vp w):vc.ownBlock=none\/vc.ownBlock≠vp.ownBlock:=by
 cases hc:vc.ownBlock with
 | none=>exact .inl rfl
 | some g=>
  right
  intro e
  obtain ⟨c1,f1,e1⟩:=Lib.ownsRow_kind h.cls g hc
  obtain ⟨c2,f2,e2⟩:=Lib.ownsRow_kind h.prs g e.symm
  rw [e1] at e2
  simp at e2
theorem AvO.apart' (h:AvO B a vc vp w):vp.ownBlock=none\/vp.ownBlock≠vc.ownBlock:=by
 rcases h.apart with h1 | h1
 ·cases hc:vp.ownBlock with
  | none=>exact .inl rfl
  | some g=>right;rw [h1];simp
 ·exact .inr fun e=>h1 e.symm
theorem AvO.pushC {x:ByteArray} {o:Obj} (h:AvO B a vc vp w) (hg:(w.alloc o).grownBy w1 vc.ownBlock) (hown:w1.ownsRow B 9 1 v1 (a.cls.length+1) (a.cls.map Value.string++[.string x])) :
  AvO B ⟨a.id,a.cls++[x],a.prs⟩ v1 vp w1/\Below B w w1/\∀ p cs,AB p cs w->AB p cs w1:=by
 have hal:Below w.heap.size w (w.alloc o):=(Below.refl _ _).alloc (Nat.le_refl _) _
 have h0:=h.below hal
 have hr:∀ g,vc.ownBlock=some g->B<=g:=fun g hgv=>(h.cls.lt g hgv).1
 refine ⟨⟨by simpa using hown,h0.prs.kept hg h.apart',Nat.le_trans h0.le hg.size⟩,?_,fun p cs hp=>?_⟩
 ·exact ((hal.mono h.le).grown hg h0.le hr)
 ·exact (hg.block p (hp.alloc o).lt (fun e=>(h.off hp).1 e.symm)).trans (hp.alloc o)
theorem AvO.pushP {x:Pr} {o:Obj} (h:AvO B a vc vp w) (hg:(w.alloc o).grownBy w1 vp.ownBlock) (hown:w1.ownsRow B 58 2 v1 (a.prs.length+1) (q2f a.prs++pcs x)) :
  AvO B ⟨a.id,a.cls,a.prs++[x]⟩ vc v1 w1/\Below B w w1/\∀ p cs,AB p cs w->AB p cs w1:=by
 have hal:Below w.heap.size w (w.alloc o):=(Below.refl _ _).alloc (Nat.le_refl _) _
 have h0:=h.below hal
 have hr:∀ g,vp.ownBlock=some g->B<=g:=fun g hgv=>(h.prs.lt g hgv).1
 refine ⟨⟨h0.cls.kept hg h.apart,?_,Nat.le_trans h0.le hg.size⟩,?_,fun p cs hp=>?_⟩
 ·have e:q2f (a.prs++[x])=q2f a.prs++pcs x:=by simp [q2f]
  rw [e]
  simpa using hown
 ·exact ((hal.mono h.le).grown hg h0.le hr)
 ·exact (hg.block p (hp.alloc o).lt (fun e=>(h.off hp).2 e.symm)).trans (hp.alloc o)
def set3 (w:World) (p:Nat) (a b c:Value):World:=((w.setCell ⟨p,0,none⟩ a).setCell ⟨p,1,none⟩ b).setCell ⟨p,2,none⟩ c
theorem AvO.set3 (h:AvO B a vc vp w) (hp:AB p cs w) (x y z:Value):AvO B a vc vp (set3 w p x y z):=
 ((h.set hp 0 x).set (hp.set 0 x) 1 y).set ((hp.set 0 x).set 1 y) 2 z
theorem q0k {B:Nat} {w0:World} (h:Below B w0 w) (hp:B<=p) (x y z:Value):Below B w0 (set3 w p x y z):=
 ((h.setCell (p:=⟨p,0,none⟩) hp x).setCell (p:=⟨p,1,none⟩) hp y).setCell (p:=⟨p,2,none⟩) hp z
end
def KA (w w':World):Prop:=w.heap.size<=w'.heap.size/\∀ p cs,AB p cs w->AB p cs w'
theorem KA.of {w w':World} (h:Below w.heap.size w w'):KA w w':=⟨h.size,fun p cs hp=>(h.block p hp.lt).trans hp⟩
theorem KA.trans {w w1 w2:World} (h:KA w w1) (k:KA w1 w2):KA w w2:=⟨Nat.le_trans h.1 k.1,fun p cs hp=>k.2 p cs (h.2 p cs hp)⟩
theorem KA.set {w w1:World} (h:KA w w1) {p:Nat} (hp:w.heap.size<=p) (j:Nat) (u:Value):KA w (w1.setCell ⟨p,j,none⟩ u):=
 ⟨by simpa [World.setCell] using h.1,fun q cs hq=>(h.2 q cs hq).far (by have:=hq.lt;omega) j u⟩
theorem KA.set3 {w w1:World} (h:KA w w1) {p:Nat} (hp:w.heap.size<=p) (x y z:Value):KA w (set3 w1 p x y z):=((h.set hp 0 x).set hp 1 y).set hp 2 z
theorem KA.alloc {w w1:World} (h:KA w w1) (o:Obj):KA w (w1.alloc o):=⟨Nat.le_trans h.1 (by simp),fun p cs hp=>(h.2 p cs hp).alloc o⟩
def Ac3Post (B:Nat) (a a':At) (bad:Prop) (w:World) (e:Ending) (w':World):Prop:=
 ∃ (vc vp:Value) (n:Int),e=.returned (.tuple #[.agg #[.string a.id,vc,vp],.int .i64 n])/\Below B w w'/\KA w w'/\((∃ a1 n1 c1,vc=.slice a1 n1 c1)/\∃ a2 n2 c2,vp=.slice a2 n2 c2)/\((n=0/\¬ bad/\AvO B a' vc vp w')\/(n≠0/\bad))
theorem rClass_any (B:Nat) (a:At) (x:ByteArray) (vc vp:Value) (w:World) (h:AvO B a vc vp w) (hc:a.cls.length<=100000) :
  Calls Tryz.prog 251 #[.agg #[.string a.id,vc,vp],.string x] w (Ac3Post B a ⟨a.id,a.cls++[x],a.prs⟩ (q1d a.cls x=true\/32<=a.cls.length) w):=by
 obtain ⟨i0,hi0,hz0,hz1,hz2⟩:=info_parts infoS
 obtain ⟨av,cv,rfl⟩:=q09 h.cls
 obtain ⟨ap,cp,rfl⟩:=q09 h.prs
 obtain ⟨w1,hw1⟩:∃ w1,w1=(w.alloc (.cells #[.string a.id,.slice av a.cls.length cv,.slice ap a.prs.length cp] 44)).alloc (.cells #[.string ⟨#[]⟩,.slice none 0 0,.slice none 0 0] 44):=⟨_,rfl⟩
 have b1:Below w.heap.size w w1:=by rw [hw1];exact ((Below.refl _ _).alloc (Nat.le_refl _) _).alloc (by simp) _
 have k1:AB w.heap.size [.string a.id,.slice av a.cls.length cv,.slice ap a.prs.length cp] w1:=by rw [hw1];exact (AB.made w _).alloc _
 have k2:AB (w.heap.size+1) [.string ⟨#[]⟩,.slice none 0 0,.slice none 0 0] w1:=by
  rw [hw1]
  have:=AB.made (w.alloc (.cells #[.string a.id,.slice av a.cls.length cv,.slice ap a.prs.length cp] 44)) [.string ⟨#[]⟩,.slice none 0 0,.slice none 0 0]
  rwa [World.size_alloc] at this
 have A1:=hid (h.below b1)
 have HT:=hid (rHasText_any a.cls x _ w1 (Sees.of_own A1.out.cls))
 obtain ⟨V,hV⟩:∃ V,V=q1d a.cls x:=⟨_,rfl⟩
 rw [<- hV] at HT
 have HV:=hid hV
 have hle:=h.le
 have K1:=hid k1
 have K2:=hid k2
 have B1:=hid b1
 have KW:=hid (KA.of b1)
 have p0:=k1.cell 0 _ rfl
 have p1:=k1.cell 1 _ rfl
 have p2:=k1.cell 2 _ rfl
 have g1:=k1.free 1
 have r0:=k2.cell 0 _ rfl
 have r1:=k2.cell 1 _ rfl
 have r2:=k2.cell 2 _ rfl
 have f0:=k2.free 0
 have f1:=k2.free 1
 have f2:=k2.free 2
 clear hV h k1 k2 b1
 cases V with
 | true=>
  go_enter Tryz.func251,Tryz.ntmps251
  go_upto_region 1 with (fail)
  rw [<- hw1]
  clear hw1
  go_wp2_with fail
  refine HT.out.mono ?_
  rintro e w2 ⟨rfl,rfl⟩
  go_wp2
  exact bodyPost_ret (v:=.tuple #[.agg #[.string a.id,.slice av a.cls.length cv,.slice ap a.prs.length cp],.int .i64 7]) (by simp [results,Tryz.results251,go_sem,r0,r1,r2]) rfl ⟨_,_,_,rfl,q0k (p:=w.heap.size+1) (B1.out.mono hle) (by omega) _ _ _,KW.out.set3 (by omega) _ _ _,⟨⟨_,_,_,rfl⟩,_,_,_,rfl⟩,.inr ⟨by decide,.inl HV.out.symm⟩⟩
 | false=>
  by_cases h32:32<=a.cls.length
  ·have q1:decide ((32:Int)<=(a.cls.length:Int))=true:=by simp;omega
   go_enter Tryz.func251,Tryz.ntmps251
   go_upto_region 1 with (fail)
   rw [<- hw1]
   clear hw1
   go_wp2_with fail
   refine HT.out.mono ?_
   rintro e w2 ⟨rfl,rfl⟩
   go_wp2
   exact bodyPost_ret (v:=.tuple #[.agg #[.string a.id,.slice av a.cls.length cv,.slice ap a.prs.length cp],.int .i64 3]) (by simp [results,Tryz.results251,go_sem,r0,r1,r2]) rfl ⟨_,_,_,rfl,q0k (p:=w.heap.size+1) (B1.out.mono hle) (by omega) _ _ _,KW.out.set3 (by omega) _ _ _,⟨⟨_,_,_,rfl⟩,_,_,_,rfl⟩,.inr ⟨by decide,.inr h32⟩⟩
  ·have q1:decide ((32:Int)<=(a.cls.length:Int))=false:=by simp;omega
   have hmx:a.cls.length<32:=by omega
   go_enter Tryz.func251,Tryz.ntmps251
   go_upto_region 1 with (fail)
   rw [<- hw1]
   clear hw1
   go_wp2_with fail
   refine HT.out.mono ?_
   rintro e w2 ⟨rfl,rfl⟩
   go_wp2_with (at_builtin;go_loud (refine q08 _ rfl (.tmp 17) (.tmp 19) 40 rfl B 9 i0 _ 1 16 Tryz.underlying40 hi0 hz0 hz1 hz2 rfl (by decide) (.slice av a.cls.length cv) a.cls.length (a.cls.map Value.string) rfl (A1.out.cls.alloc _) (w1.heap.size+1) (some ⟨w1.heap.size,0,none⟩) 1 1 [.string x] rfl ?g1 ?g2 ?g3 ?g4 ?g5 ?_))
   case g1=>exact ⟨rfl,fun _=>⟨_,rfl,by simp,q0o w1 [.string x] _⟩⟩
   case g2=>intro u hu;simp at hu;subst hu;rfl
   case g3=>unfold maxLen;omega
   case g4=>omega
   case g5=>have:=A1.out.le;simp;omega
   intro v1 w2 hown hg _
   obtain ⟨a1,c1,rfl⟩:=q09 hown
   obtain ⟨HR,HB,HP⟩:=A1.out.pushC hg hown
   have j1:=HP _ _ K1.out
   have j2:=HP _ _ K2.out
   have HB2:Below B w w2:=(B1.out.mono hle).trans HB
   have hw2:w1.heap.size<=w2.heap.size:=by have:=hg.size;rw [World.size_alloc] at this;omega
   have HK2:KA w w2:=KW.out.trans ⟨hw2,HP⟩
   clear p0 p1 p2 g1 r0 r1 r2 f0 f1 f2 hown hg HP HB
   have p0:=j1.cell 0 _ rfl
   have p1:=j1.cell 1 _ rfl
   have p2:=j1.cell 2 _ rfl
   have g1:=j1.free 1
   have r0:=j2.cell 0 _ rfl
   have r1:=j2.cell 1 _ rfl
   have r2:=j2.cell 2 _ rfl
   have f0:=j2.free 0
   have f1:=j2.free 1
   have f2:=j2.free 2
   have HRS:=hid (((HR.set j1 1 (.slice a1 (a.cls.length+1) c1)).set3 (j2.far (by omega) 1 (.slice a1 (a.cls.length+1) c1)) (.string a.id) (.slice a1 (a.cls.length+1) c1) (.slice ap a.prs.length cp)))
   have HBS:=hid (q0k (p:=w.heap.size+1) (HB2.setCell (p:=⟨w.heap.size,1,none⟩) hle (.slice a1 (a.cls.length+1) c1)) (by omega) (.string a.id) (.slice a1 (a.cls.length+1) c1) (.slice ap a.prs.length cp))
   have HKS:=hid ((HK2.set (p:=w.heap.size) (Nat.le_refl _) 1 (.slice a1 (a.cls.length+1) c1)).set3 (p:=w.heap.size+1) (by omega) (.string a.id) (.slice a1 (a.cls.length+1) c1) (.slice ap a.prs.length cp))
   clear HR HB2 HK2 hw2 j1 j2
   go_wp2
   exact bodyPost_ret (v:=.tuple #[.agg #[.string a.id,.slice a1 (a.cls.length+1) c1,.slice ap a.prs.length cp],.int .i64 0]) (by simp [results,Tryz.results251,go_sem,r0,r1,r2]) rfl ⟨_,_,_,rfl,HBS.out,HKS.out,⟨⟨_,_,_,rfl⟩,_,_,_,rfl⟩,.inl ⟨rfl,by rintro (h | h);(rw [<- HV.out] at h;cases h);omega,HRS.out⟩⟩
def It3Post (B:Nat) (a:At) (s:ByteArray) (i:Nat) (w:World) (e:Ending) (w':World):Prop:=
 ∃ (x:ByteArray) (vc vp:Value) (t n:Int),e=.returned (.tuple #[.agg #[.string x,vc,vp],.int .i64 t,.int .i64 n])/\Below B w w'/\KA w w'/\((∃ a1 n1 c1,vc=.slice a1 n1 c1)/\∃ a2 n2 c2,vp=.slice a2 n2 c2) /\
  ((n=0/\∃ (a':At) (q:Nat),q<=s.size/\t=q/\q2h a (frm s i)=some (a',frm s q)/\a'.id=x/\a'.cls.length<=32/\a'.prs.length<=32/\AvO B a' vc vp w')\/(n≠0/\q2h a (frm s i)=none))
theorem rItem_any (B:Nat) (a:At) (s:ByteArray) (i:Nat) (vc vp:Value) (w:World) (h:AvO B a vc vp w) (hc:a.cls.length<=32) (hp:a.prs.length<=32) (hs:s.size<=100000) (hi:i<s.size) :
  Calls Tryz.prog 236 #[.agg #[.string a.id,vc,vp],.string s,.int .i64 i] w (It3Post B a s i w):=by
 obtain ⟨i0,hi0,hz0,hz1,hz2⟩:=info_parts infoPr
 obtain ⟨av,cv,rfl⟩:=q09 h.cls
 obtain ⟨ap,cp,rfl⟩:=q09 h.prs
 obtain ⟨w1,hw1⟩:∃ w1,w1=(w.alloc (.cells #[.string a.id,.slice av a.cls.length cv,.slice ap a.prs.length cp] 44)).alloc (.cells #[.string ⟨#[]⟩,.slice none 0 0,.slice none 0 0] 44):=⟨_,rfl⟩
 have b1:Below w.heap.size w w1:=by rw [hw1];exact ((Below.refl _ _).alloc (Nat.le_refl _) _).alloc (by simp) _
 have k1:AB w.heap.size [.string a.id,.slice av a.cls.length cv,.slice ap a.prs.length cp] w1:=by rw [hw1];exact (AB.made w _).alloc _
 have k2:AB (w.heap.size+1) [.string ⟨#[]⟩,.slice none 0 0,.slice none 0 0] w1:=by
  rw [hw1]
  have:=AB.made (w.alloc (.cells #[.string a.id,.slice av a.cls.length cv,.slice ap a.prs.length cp] 44)) [.string ⟨#[]⟩,.slice none 0 0,.slice none 0 0]
  rwa [World.size_alloc] at this
 have A1:=hid (h.below b1)
 have hle:=h.le
 have K1:=hid k1
 have K2:=hid k2
 have BW:=hid (b1.mono hle)
 have KW:=hid (KA.of b1)
 have p0:=k1.cell 0 _ rfl
 have p1:=k1.cell 1 _ rfl
 have p2:=k1.cell 2 _ rfl
 have g0:=k1.free 0
 have g2:=k1.free 2
 have r0:=k2.cell 0 _ rfl
 have r1:=k2.cell 1 _ rfl
 have r2:=k2.cell 2 _ rfl
 have f0:=k2.free 0
 have f1:=k2.free 1
 have f2:=k2.free 2
 have hsz:w.heap.size+2<=w1.heap.size:=by rw [hw1];simp [World.size_alloc]
 have hcn:=q1l s i hi
 have HFAIL:Hid (∀ (w':World) (t n:Int),Below B w w'->KA w w'->n≠0->q2h a (frm s i)=none->It3Post B a s i w (.returned (.tuple #[.agg #[.string a.id,.slice av a.cls.length cv,.slice ap a.prs.length cp],.int .i64 t,.int .i64 n])) w'):=
  fun w' t n hb hk hn hz=>⟨_,_,_,_,_,rfl,hb,hk,⟨⟨_,_,_,rfl⟩,_,_,_,rfl⟩,.inr ⟨hn,hz⟩⟩
 clear h k1 k2 b1
 by_cases h35:s[i]=35
 ·have q1:((s[i].toNat:Int)==35)=true:=by rw [h35];rfl
  have hsg:q0g (frm s i)=frm s (i+1):=by rw [hcn,h35];rfl
  have HIT:=item_form a s i (i+1) hsg (by omega)
  rw [hcn,h35,List.head?_cons,if_pos rfl] at HIT
  rw [<- h35,<- hcn] at HIT
  have HIT:=hid HIT
  have WE:Hid (∀ w,Calls Tryz.prog 77 #[.string s,.int .i64 ((i:Int)+1)] w fun e w'=>e=.returned (.int .i64 (q1u s (i+1):Nat))/\w=w'):=fun w=>rWordI_any s (i+1) w (by omega) (by omega)
  have hwl:=wEndI_le s (i+1) (by omega)
  have hwg:i+1<=q1u s (i+1):=Nat.le_add_right _ _
  generalize q1u s (i+1)=T at *
  have hvs:(s.extract (i+1) T).size<=1000000000:=by rw [ByteArray.size_extract];omega
  have NM:=hid (fun w=>q23 (s.extract (i+1) T) w hvs)
  generalize q0a (s.extract (i+1) T)=NX at *
  clear hcn hsg hvs h35
  cases NX with
  | false=>
   have HIT2:Hid (q2h a (frm s i)=none):=HIT.out
   go_enter Tryz.func236,Tryz.ntmps236
   go_upto_region 1 with (fail)
   rw [<- hw1]
   clear hw1
   go_wp2_with fail
   refine (WE.out _).mono ?_
   rintro e w2 ⟨rfl,rfl⟩
   go_wp2_with fail
   refine (NM.out _).mono ?_
   rintro e w2 ⟨rfl,rfl⟩
   go_wp2
   exact bodyPost_ret (v:=.tuple #[.agg #[.string a.id,.slice av a.cls.length cv,.slice ap a.prs.length cp],.int .i64 0,.int .i64 5]) (by simp [results,Tryz.results236,go_sem,r0,r1,r2]) rfl (HFAIL.out _ _ _ (q0k (p:=w.heap.size+1) BW.out (by omega) _ _ _) (KW.out.set3 (by omega) _ _ _) (by decide) HIT2.out)
  | true=>
   have HIT2:Hid (q2h a (frm s i)=if q06 a.id=false then none else some (⟨s.extract (i+1) T,a.cls,a.prs⟩,frm s T)):=HIT.out
   cases hem:q06 a.id with
   | false=>
    have hie:a.id.toList.isEmpty=false:=by rw [q19];exact hem
    have HIT3:Hid (q2h a (frm s i)=none):=by show _=_;rw [HIT2.out,if_pos hem]
    clear HIT HIT2 hem
    go_enter Tryz.func236,Tryz.ntmps236
    go_upto_region 1 with (fail)
    rw [<- hw1]
    clear hw1
    go_wp2_with fail
    refine (WE.out _).mono ?_
    rintro e w2 ⟨rfl,rfl⟩
    go_wp2_with fail
    refine (NM.out _).mono ?_
    rintro e w2 ⟨rfl,rfl⟩
    go_wp2
    exact bodyPost_ret (v:=.tuple #[.agg #[.string a.id,.slice av a.cls.length cv,.slice ap a.prs.length cp],.int .i64 0,.int .i64 7]) (by simp [results,Tryz.results236,go_sem,r0,r1,r2]) rfl (HFAIL.out _ _ _ (q0k (p:=w.heap.size+1) BW.out (by omega) _ _ _) (KW.out.set3 (by omega) _ _ _) (by decide) HIT3.out)
   | true=>
    have hie:a.id.toList.isEmpty=true:=by rw [q19];exact hem
    have HIT3:Hid (q2h a (frm s i)=some (⟨s.extract (i+1) T,a.cls,a.prs⟩,frm s T)):=by show _=_;rw [HIT2.out,hem];rfl
    have HR:=hid ((A1.out.set K1.out 0 (.string (s.extract (i+1) T))).set3 (K2.out.far (by omega) 0 (.string (s.extract (i+1) T))) (.string (s.extract (i+1) T)) (.slice av a.cls.length cv) (.slice ap a.prs.length cp))
    have HB:=hid (q0k (p:=w.heap.size+1) (BW.out.setCell (p:=⟨w.heap.size,0,none⟩) hle (.string (s.extract (i+1) T))) (by omega) (.string (s.extract (i+1) T)) (.slice av a.cls.length cv) (.slice ap a.prs.length cp))
    have HKS:=hid ((KW.out.set (p:=w.heap.size) (Nat.le_refl _) 0 (.string (s.extract (i+1) T))).set3 (p:=w.heap.size+1) (by omega) (.string (s.extract (i+1) T)) (.slice av a.cls.length cv) (.slice ap a.prs.length cp))
    clear HIT HIT2 hem
    go_enter Tryz.func236,Tryz.ntmps236
    go_upto_region 1 with (fail)
    rw [<- hw1]
    clear hw1
    go_wp2_with fail
    refine (WE.out _).mono ?_
    rintro e w2 ⟨rfl,rfl⟩
    go_wp2_with fail
    refine (NM.out _).mono ?_
    rintro e w2 ⟨rfl,rfl⟩
    go_wp2
    exact bodyPost_ret (v:=.tuple #[.agg #[.string (s.extract (i+1) T),.slice av a.cls.length cv,.slice ap a.prs.length cp],.int .i64 (T:Int),.int .i64 0]) (by simp [results,Tryz.results236,go_sem,r0,r1,r2]) rfl ⟨_,_,_,_,_,rfl,HB.out,HKS.out,⟨⟨_,_,_,rfl⟩,_,_,_,rfl⟩,.inl ⟨rfl,⟨s.extract (i+1) T,a.cls,a.prs⟩,T,hwl,rfl,HIT3.out,rfl,hc,hp,⟨HR.out.cls,HR.out.prs,HR.out.le⟩⟩⟩
 ·have q1:((s[i].toNat:Int)==35)=false:=by
   rw [beq_eq_false_iff_ne];intro e;exact h35 (by rw [<- UInt8.toNat_inj];show _=35;omega)
  by_cases h46:s[i]=46
  ·have q2:((s[i].toNat:Int)==46)=true:=by rw [h46];rfl
   have hsg:q0g (frm s i)=frm s (i+1):=by rw [hcn,h46];rfl
   have HIT:=item_form a s i (i+1) hsg (by omega)
   rw [hcn,h46,List.head?_cons,if_neg (show ¬ (some (46:UInt8)=some 35) by decide),if_pos rfl] at HIT
   rw [<- h46,<- hcn] at HIT
   have HIT:=hid HIT
   have WE:Hid (∀ w,Calls Tryz.prog 77 #[.string s,.int .i64 ((i:Int)+1)] w fun e w'=>e=.returned (.int .i64 (q1u s (i+1):Nat))/\w=w'):=fun w=>rWordI_any s (i+1) w (by omega) (by omega)
   have hwl:=wEndI_le s (i+1) (by omega)
   have hwg:i+1<=q1u s (i+1):=Nat.le_add_right _ _
   generalize q1u s (i+1)=T at *
   have hvs:(s.extract (i+1) T).size<=1000000000:=by rw [ByteArray.size_extract];omega
   have NM:=hid (fun w=>q23 (s.extract (i+1) T) w hvs)
   have AC:=hid (rClass_any B a (s.extract (i+1) T) _ _ w1 A1.out (by omega))
   generalize q0a (s.extract (i+1) T)=NX at *
   clear hcn hsg hvs h35 h46
   cases NX with
   | false=>
    have HIT2:Hid (q2h a (frm s i)=none):=HIT.out
    go_enter Tryz.func236,Tryz.ntmps236
    go_upto_region 1 with (fail)
    rw [<- hw1]
    clear hw1
    go_wp2_with fail
    refine (WE.out _).mono ?_
    rintro e w2 ⟨rfl,rfl⟩
    go_wp2_with fail
    refine (NM.out _).mono ?_
    rintro e w2 ⟨rfl,rfl⟩
    go_wp2
    exact bodyPost_ret (v:=.tuple #[.agg #[.string a.id,.slice av a.cls.length cv,.slice ap a.prs.length cp],.int .i64 0,.int .i64 5]) (by simp [results,Tryz.results236,go_sem,r0,r1,r2]) rfl (HFAIL.out _ _ _ (q0k (p:=w.heap.size+1) BW.out (by omega) _ _ _) (KW.out.set3 (by omega) _ _ _) (by decide) HIT2.out)
   | true=>
    go_enter Tryz.func236,Tryz.ntmps236
    go_upto_region 1 with (fail)
    rw [<- hw1]
    clear hw1
    go_wp2_with fail
    refine (WE.out _).mono ?_
    rintro e w2 ⟨rfl,rfl⟩
    go_wp2_with fail
    refine (NM.out _).mono ?_
    rintro e w2 ⟨rfl,rfl⟩
    go_wp2_with fail
    refine AC.out.mono ?_
    rintro e w3 ⟨vc',vp',n,rfl,hb3,hk3,hsv,hres⟩
    have HRES:=hid hres
    have j2:=hk3.2 _ _ K2.out
    have hs3:w.heap.size+2<=w3.heap.size:=Nat.le_trans hsz hk3.1
    obtain ⟨⟨a1,n1,c1,rfl⟩,a2,n2,c2,rfl⟩:=hsv
    have HPOST:Hid (It3Post B a s i w (.returned (.tuple #[.agg #[.string a.id,.slice a1 n1 c1,.slice a2 n2 c2],.int .i64 (T:Int),.int .i64 n])) ((set3 w3 (w.heap.size+1) (.string a.id) (.slice a1 n1 c1) (.slice a2 n2 c2)).alloc (.cells #[.string a.id,.slice a1 n1 c1,.slice a2 n2 c2] 44))):=by
     refine ⟨_,_,_,_,_,rfl,(q0k (p:=w.heap.size+1) (BW.out.trans hb3) (by omega) _ _ _).alloc (by simp [set3,World.setCell];omega) _,((KW.out.trans hk3).set3 (p:=w.heap.size+1) (by omega) _ _ _).alloc _,⟨⟨_,_,_,rfl⟩,_,_,_,rfl⟩,?_⟩
     rcases HRES.out with ⟨h1,h2,h3⟩ | ⟨h1,h2⟩
     ·refine .inl ⟨h1,⟨a.id,a.cls++[s.extract (i+1) T],a.prs⟩,T,hwl,rfl,?_,rfl,?_,hp,(h3.set3 j2 _ _ _).below ((Below.refl _ _).alloc (Nat.le_refl _) _)⟩
      ·rw [HIT.out,if_neg (by decide),if_neg (fun e=>h2 (.inl e)),if_neg (fun e=>h2 (.inr e))]
      ·simp only [List.length_append,List.length_singleton]
       have:¬ 32<=a.cls.length:=fun e=>h2 (.inr e)
       omega
     ·refine .inr ⟨h1,?_⟩
      rw [HIT.out,if_neg (by decide)]
      by_cases h4:q1d a.cls (s.extract (i+1) T)=true
      ·rw [if_pos h4]
      ·rw [if_neg h4,if_pos (h2.resolve_left h4)]
    clear hb3 hk3 hres HRES p0 p1 p2 g0 g2 r0 r1 r2 f0 f1 f2
    have r0:=j2.cell 0 _ rfl
    have r1:=j2.cell 1 _ rfl
    have r2:=j2.cell 2 _ rfl
    have f0:=j2.free 0
    have f1:=j2.free 1
    have f2:=j2.free 2
    clear j2
    have hlt3:w.heap.size+1<w3.heap.size:=by omega
    go_wp2
    exact bodyPost_ret (v:=.tuple #[.agg #[.string a.id,.slice a1 n1 c1,.slice a2 n2 c2],.int .i64 (T:Int),.int .i64 n]) (by simp [results,Tryz.results236,go_sem,r0,r1,r2,hlt3]) rfl HPOST.out
  ·have q2:((s[i].toNat:Int)==46)=false:=by
    rw [beq_eq_false_iff_ne];intro e;exact h46 (by rw [<- UInt8.toNat_inj];show _=46;omega)
   have hsg:q0g (frm s i)=frm s i:=by
    unfold q0g
    rw [hcn,List.head?_cons,if_neg]
    rintro (h | h)
    ·exact h35 (Option.some.inj h)
    ·exact h46 (Option.some.inj h)
   have HIT:=item_form a s i i hsg (by omega)
   rw [show (frm s i).head?=some s[i] from frm_head s i hi,if_neg (fun e=>h35 (Option.some.inj e)),if_neg (fun e=>h46 (Option.some.inj e))] at HIT
   have HIT:=hid HIT
   have WE:Hid (∀ w,Calls Tryz.prog 77 #[.string s,.int .i64 (i:Int)] w fun e w'=>e=.returned (.int .i64 (q1u s i:Nat))/\w=w'):=fun w=>rWordI_any s i w (by omega) (by omega)
   have hwl:=wEndI_le s i (by omega)
   have hwg:i<=q1u s i:=Nat.le_add_right _ _
   generalize q1u s i=T at *
   have hvs:(s.extract i T).size<=1000000000:=by rw [ByteArray.size_extract];omega
   have NM:=hid (fun w=>q23 (s.extract i T) w hvs)
   generalize q0a (s.extract i T)=NX at *
   clear hcn hsg hvs h35 h46
   cases NX with
   | false=>
    have HIT2:Hid (q2h a (frm s i)=none):=HIT.out
    go_enter Tryz.func236,Tryz.ntmps236
    go_upto_region 1 with (fail)
    rw [<- hw1]
    clear hw1
    go_wp2_with fail
    refine (WE.out _).mono ?_
    rintro e w2 ⟨rfl,rfl⟩
    go_wp2_with fail
    refine (NM.out _).mono ?_
    rintro e w2 ⟨rfl,rfl⟩
    go_wp2
    exact bodyPost_ret (v:=.tuple #[.agg #[.string a.id,.slice av a.cls.length cv,.slice ap a.prs.length cp],.int .i64 0,.int .i64 5]) (by simp [results,Tryz.results236,go_sem,r0,r1,r2]) rfl (HFAIL.out _ _ _ (q0k (p:=w.heap.size+1) BW.out (by omega) _ _ _) (KW.out.set3 (by omega) _ _ _) (by decide) HIT2.out)
   | true=>
    by_cases hT:T<s.size
    ·have hcT:=q1l s T hT
     have q3:decide ((s.size:Int)<=(T:Int))=false:=by simp;omega
     by_cases h61:s[T]=61
     ·have q4:((s[T].toNat:Int) != 61)=false:=by rw [h61];rfl
      have HIT2:Hid (q2h a (frm s i)=match q2l (frm s (T+1)) with
       | none=>none
       | some (v,r)=>if q1d (keysOf a) (s.extract i T)=true then none else if 32<=a.prs.length then none
        else some (⟨a.id,a.cls,a.prs++[⟨s.extract i T,v⟩]⟩,r)):=by
       show _=_
       rw [HIT.out,if_neg (by decide),hcT,h61]
       rfl
      have RV:Hid (∀ w,Calls Tryz.prog 252 #[.string s,.int .i64 ((T:Int)+1)] w (Rv3Post s (T+1) w)):=fun w=>rValue_any s (T+1) w (by omega) (by omega)
      clear HIT hcT h61
      go_enter Tryz.func236,Tryz.ntmps236
      go_upto_region 1 with (fail)
      rw [<- hw1]
      clear hw1
      go_wp2_with fail
      refine (WE.out _).mono ?_
      rintro e w2 ⟨rfl,rfl⟩
      go_wp2_with fail
      refine (NM.out _).mono ?_
      rintro e w2 ⟨rfl,rfl⟩
      go_wp2_with fail
      refine (RV.out _).mono ?_
      rintro e w3 ⟨⟨v,n,bb,rfl,hres⟩,hbel⟩
      have A3:=hid (A1.out.below hbel)
      have BW3:=hid (BW.out.trans (hbel.mono A1.out.le))
      have KW3:=hid (KW.out.trans (KA.of hbel))
      have K13:=hid ((KA.of hbel).2 _ _ K1.out)
      have K23:=hid ((KA.of hbel).2 _ _ K2.out)
      have HRES:=hid hres
      clear hres hbel p0 p1 p2 g0 g2 r0 r1 r2 f0 f1 f2
      have p0:=K13.out.cell 0 _ rfl
      have p1:=K13.out.cell 1 _ rfl
      have p2:=K13.out.cell 2 _ rfl
      have g2:=K13.out.free 2
      have r0:=K23.out.cell 0 _ rfl
      have r1:=K23.out.cell 1 _ rfl
      have r2:=K23.out.cell 2 _ rfl
      have f0:=K23.out.free 0
      have f1:=K23.out.free 1
      have f2:=K23.out.free 2
      cases bb with
      | false=>
       have HIT3:Hid (q2h a (frm s i)=none):=by
        show _=_
        rcases HRES.out with ⟨h1,_⟩ | ⟨_,h1⟩
        ·cases h1
        ·rw [HIT2.out,h1]
       clear HIT2
       go_wp2
       exact bodyPost_ret (v:=.tuple #[.agg #[.string a.id,.slice av a.cls.length cv,.slice ap a.prs.length cp],.int .i64 0,.int .i64 5]) (by simp [results,Tryz.results236,go_sem,r0,r1,r2]) rfl (HFAIL.out _ _ _ (q0k (p:=w.heap.size+1) BW3.out (by omega) _ _ _) (KW3.out.set3 (by omega) _ _ _) (by decide) HIT3.out)
      | true=>
       obtain ⟨q,hq,rfl,HVq⟩:∃ q:Nat,q<=s.size/\n=q/\Hid (q2l (frm s (T+1))=some (v,frm s q)):=by
        rcases HRES.out with ⟨_,h⟩ | ⟨h1,_⟩
        ·exact h
        ·cases h1
       have HKY:=hid (fun w (h:w.ownsRow B 58 2 (.slice ap a.prs.length cp) a.prs.length (q2f a.prs))=>rHasKeyO_any a.prs (s.extract i T) B _ w h (by omega))
       have HIT3:Hid (q2h a (frm s i)=if q1d (keysOf a) (s.extract i T)=true then none else if 32<=a.prs.length then none
        else some (⟨a.id,a.cls,a.prs++[⟨s.extract i T,v⟩]⟩,frm s q)):=by show _=_;rw [HIT2.out,HVq.out]
       obtain ⟨V,hV⟩:∃ V,V=q1d (keysOf a) (s.extract i T):=⟨_,rfl⟩
       have hV2:q1d (a.prs.map Pr.key) (s.extract i T)=V:=hV.symm
       rw [hV2] at HKY
       rw [<- hV] at HIT3
       clear HIT2 HVq HRES hV hV2
       cases V with
       | true=>
        have HIT4:Hid (q2h a (frm s i)=none):=HIT3.out
        go_wp2_with fail
        refine (HKY.out _ A3.out.prs).mono ?_
        rintro e w4 ⟨rfl,rfl⟩
        go_wp2
        exact bodyPost_ret (v:=.tuple #[.agg #[.string a.id,.slice av a.cls.length cv,.slice ap a.prs.length cp],.int .i64 0,.int .i64 7]) (by simp [results,Tryz.results236,go_sem,r0,r1,r2]) rfl (HFAIL.out _ _ _ (q0k (p:=w.heap.size+1) BW3.out (by omega) _ _ _) (KW3.out.set3 (by omega) _ _ _) (by decide) HIT4.out)
       | false=>
        by_cases h32:32<=a.prs.length
        ·have q5:decide ((32:Int)<=(a.prs.length:Int))=true:=by simp;omega
         have HIT4:Hid (q2h a (frm s i)=none):=by show _=_;rw [HIT3.out,if_neg (by decide),if_pos h32]
         go_wp2_with fail
         refine (HKY.out _ A3.out.prs).mono ?_
         rintro e w4 ⟨rfl,rfl⟩
         go_wp2
         exact bodyPost_ret (v:=.tuple #[.agg #[.string a.id,.slice av a.cls.length cv,.slice ap a.prs.length cp],.int .i64 0,.int .i64 3]) (by simp [results,Tryz.results236,go_sem,r0,r1,r2]) rfl (HFAIL.out _ _ _ (q0k (p:=w.heap.size+1) BW3.out (by omega) _ _ _) (KW3.out.set3 (by omega) _ _ _) (by decide) HIT4.out)
        ·have q5:decide ((32:Int)<=(a.prs.length:Int))=false:=by simp;omega
         have HIT4:Hid (q2h a (frm s i)=some (⟨a.id,a.cls,a.prs++[⟨s.extract i T,v⟩]⟩,frm s q)):=by show _=_;rw [HIT3.out,if_neg (by decide),if_neg h32]
         go_wp2_with fail
         refine (HKY.out _ A3.out.prs).mono ?_
         rintro e w4 ⟨rfl,rfl⟩
         go_wp2_with (at_builtin;refine q08 _ rfl (.tmp 102) (.tmp 106) 22 rfl B 58 i0 _ 2 32 Tryz.underlying22 hi0 hz0 hz1 hz2 rfl (by decide) (.slice ap a.prs.length cp) a.prs.length (q2f a.prs) rfl (A3.out.prs.alloc _) (w3.heap.size+1) (some ⟨w3.heap.size,0,none⟩) 1 1 [.string (s.extract i T),.string v] rfl ?g1 ?g2 ?g3 ?g4 ?g5 ?_)
         case g1=>exact ⟨rfl,fun _=>⟨_,rfl,by simp,q0o w3 [.string (s.extract i T),.string v] _⟩⟩
         case g2=>intro u hu;simp at hu;rcases hu with rfl | rfl<;>rfl
         case g3=>unfold maxLen;omega
         case g4=>omega
         case g5=>have:=A3.out.le;simp;omega
         intro v1 w4 hown hg _
         obtain ⟨a1,c1,rfl⟩:=q09 hown
         obtain ⟨HR,HB,HP⟩:=A3.out.pushP (x:=⟨s.extract i T,v⟩) hg hown
         have j1:=HP _ _ K13.out
         have j2:=HP _ _ K23.out
         have hw4:w3.heap.size<=w4.heap.size:=by have:=hg.size;rw [World.size_alloc] at this;omega
         have HRF:=hid ((HR.set j1 2 (.slice a1 (a.prs.length+1) c1)).set3 (j2.far (by omega) 2 (.slice a1 (a.prs.length+1) c1)) (.string a.id) (.slice av a.cls.length cv) (.slice a1 (a.prs.length+1) c1))
         have HBF:=hid (q0k (p:=w.heap.size+1) ((BW3.out.trans HB).setCell (p:=⟨w.heap.size,2,none⟩) hle (.slice a1 (a.prs.length+1) c1)) (by omega) (.string a.id) (.slice av a.cls.length cv) (.slice a1 (a.prs.length+1) c1))
         have HKF:=hid (((KW3.out.trans ⟨hw4,HP⟩).set (p:=w.heap.size) (Nat.le_refl _) 2 (.slice a1 (a.prs.length+1) c1)).set3 (p:=w.heap.size+1) (by omega) (.string a.id) (.slice av a.cls.length cv) (.slice a1 (a.prs.length+1) c1))
         clear p0 p1 p2 g2 r0 r1 r2 f0 f1 f2 hown hg HP HB HR hw4
         have p0:=j1.cell 0 _ rfl
         have p1:=j1.cell 1 _ rfl
         have p2:=j1.cell 2 _ rfl
         have g2:=j1.free 2
         have r0:=j2.cell 0 _ rfl
         have r1:=j2.cell 1 _ rfl
         have r2:=j2.cell 2 _ rfl
         have f0:=j2.free 0
         have f1:=j2.free 1
         have f2:=j2.free 2
         clear j1 j2
         go_wp2
         have hl1:(a.prs++[(⟨s.extract i T,v⟩:Pr)]).length<=32:=by
          simp only [List.length_append,List.length_singleton]
          omega
         exact bodyPost_ret (v:=.tuple #[.agg #[.string a.id,.slice av a.cls.length cv,.slice a1 (a.prs.length+1) c1],.int .i64 (q:Int),.int .i64 0]) (by simp [results,Tryz.results236,go_sem,r0,r1,r2]) rfl ⟨_,_,_,_,_,rfl,HBF.out,HKF.out,⟨⟨_,_,_,rfl⟩,_,_,_,rfl⟩,.inl ⟨rfl,⟨a.id,a.cls,a.prs++[⟨s.extract i T,v⟩]⟩,q,hq,rfl,HIT4.out,rfl,hc,hl1,HRF.out⟩⟩
     ·have q4:((s[T].toNat:Int) != 61)=true:=by rw [bne_iff_ne];intro e;exact h61 (by rw [<- UInt8.toNat_inj];show _=61;omega)
      have HIT2:Hid (q2h a (frm s i)=none):=by
       show _=_
       rw [HIT.out,if_neg (by decide),frm_head s T hT,if_neg (fun e=>h61 (Option.some.inj e))]
      clear HIT hcT h61
      go_enter Tryz.func236,Tryz.ntmps236
      go_upto_region 1 with (fail)
      rw [<- hw1]
      clear hw1
      go_wp2_with fail
      refine (WE.out _).mono ?_
      rintro e w2 ⟨rfl,rfl⟩
      go_wp2_with fail
      refine (NM.out _).mono ?_
      rintro e w2 ⟨rfl,rfl⟩
      go_wp2
      exact bodyPost_ret (v:=.tuple #[.agg #[.string a.id,.slice av a.cls.length cv,.slice ap a.prs.length cp],.int .i64 0,.int .i64 5]) (by simp [results,Tryz.results236,go_sem,r0,r1,r2]) rfl (HFAIL.out _ _ _ (q0k (p:=w.heap.size+1) BW.out (by omega) _ _ _) (KW.out.set3 (by omega) _ _ _) (by decide) HIT2.out)
    ·have q3:decide ((s.size:Int)<=(T:Int))=true:=by simp;omega
     have HIT2:Hid (q2h a (frm s i)=none):=by
      show _=_
      rw [HIT.out,if_neg (by decide),frm_end s T (by omega),if_neg (by simp)]
     clear HIT
     go_enter Tryz.func236,Tryz.ntmps236
     go_upto_region 1 with (fail)
     rw [<- hw1]
     clear hw1
     go_wp2_with fail
     refine (WE.out _).mono ?_
     rintro e w2 ⟨rfl,rfl⟩
     go_wp2_with fail
     refine (NM.out _).mono ?_
     rintro e w2 ⟨rfl,rfl⟩
     go_wp2
     exact bodyPost_ret (v:=.tuple #[.agg #[.string a.id,.slice av a.cls.length cv,.slice ap a.prs.length cp],.int .i64 0,.int .i64 5]) (by simp [results,Tryz.results236,go_sem,r0,r1,r2]) rfl (HFAIL.out _ _ _ (q0k (p:=w.heap.size+1) BW.out (by omega) _ _ _) (KW.out.set3 (by omega) _ _ _) (by decide) HIT2.out)
open Go.RowKit
structure Pm3 (w:World) (a:At) (vc vp:Value) (wr:World):Prop where
 res:AB w.heap.size [.string ⟨#[]⟩,.slice none 0 0,.slice none 0 0] wr
 at_:AB (w.heap.size+1) [.string a.id,vc,vp] wr
 av:AvO (w.heap.size+2) a vc vp wr
 sl:(∃ a1 n1 c1,vc=.slice a1 n1 c1)/\∃ a2 n2 c2,vp=.slice a2 n2 c2
 bel:Below w.heap.size w wr
def Pc3Rel (s:ByteArray) (i0:Nat) (R:Option (At × List UInt8)) (w:World) (vp vn:Value) (wr:World):Prop:=
 ∃ (f:Nat) (a:At) (p n:Nat) (xc xp:Value),p<=s.size/\vp=.int .i64 p/\vn=.int .i64 n/\s.size-p+1<=f/\n+i0+1<=p/\parseG f a (decide (n=0)||decide ((frm s p).head?=some 32)) (q0t (frm s p))=R/\a.cls.length<=32/\a.prs.length<=32/\Pm3 w a xc xp wr
theorem rParse_any (s:ByteArray) (i0:Nat) (w:World) (hs:s.size<=100000) (hi0:i0<=s.size) :
  Calls Tryz.prog 212 #[.string s,.int .i64 i0] w (PrPost s i0 w):=by
 by_cases h123:i0<s.size/\bt s i0=123
 case neg=>
  have HIT:Hid (parseL (frm s i0)=none):=by
   show _=_
   unfold parseL
   rw [if_neg]
   intro h
   rcases Nat.lt_or_ge i0 s.size with h1 | h1
   ·rw [frm_head s i0 h1] at h
    have h2:s[i0]=123:=Option.some.inj h
    exact h123 ⟨h1,by rw [<- q16 s i0 h1,h2];rfl⟩
   ·rw [frm_end s i0 h1] at h;cases h
  have hc:(s.size<=i0)\/(i0<s.size/\bt s i0≠123):=by omega
  obtain ⟨w1,hw1⟩:∃ w1,w1=w.alloc (.cells #[.string ⟨#[]⟩,.slice none 0 0,.slice none 0 0] 44):=⟨_,rfl⟩
  have hab:AB w.heap.size [.string ⟨#[]⟩,.slice none 0 0,.slice none 0 0] w1:=by rw [hw1];exact AB.made w _
  have b1:Below w.heap.size w w1:=by rw [hw1];exact (Below.refl _ _).alloc (Nat.le_refl _) _
  have HB:=hid (q0k (p:=w.heap.size) b1 (Nat.le_refl _) (.string ⟨#[]⟩) (.slice none 0 0) (.slice none 0 0))
  have r0:=hab.cell 0 _ rfl
  have r1:=hab.cell 1 _ rfl
  have r2:=hab.cell 2 _ rfl
  have f0:=hab.free 0
  have f1:=hab.free 1
  have f2:=hab.free 2
  clear h123 hab b1
  rcases hc with hc | ⟨hc,hb⟩
  ·have q1:decide ((s.size:Int)<=(i0:Int))=true:=by simp;omega
   go_enter Tryz.func212,Tryz.ntmps212
   go_upto_region 1 with (fail)
   rw [<- hw1]
   clear hw1
   go_wp2
   exact bodyPost_ret (v:=.tuple #[.agg #[.string ⟨#[]⟩,.slice none 0 0,.slice none 0 0],.int .i64 0,.int .i64 5]) (by simp [results,Tryz.results212,go_sem,r0,r1,r2]) rfl ⟨_,_,_,_,_,_,_,_,_,rfl,HB.out,.inr ⟨by decide,HIT.out⟩⟩
  ·have q1:decide ((s.size:Int)<=(i0:Int))=false:=by simp;omega
   have q2:((s[i0].toNat:Int) != 123)=true:=by rw [q16 s i0 hc,bne_iff_ne];omega
   go_enter Tryz.func212,Tryz.ntmps212
   go_upto_region 1 with (fail)
   rw [<- hw1]
   clear hw1
   go_wp2
   exact bodyPost_ret (v:=.tuple #[.agg #[.string ⟨#[]⟩,.slice none 0 0,.slice none 0 0],.int .i64 0,.int .i64 5]) (by simp [results,Tryz.results212,go_sem,r0,r1,r2]) rfl ⟨_,_,_,_,_,_,_,_,_,rfl,HB.out,.inr ⟨by decide,HIT.out⟩⟩
 case pos=>
  obtain ⟨hlt0,hb0⟩:=h123
  have hcons:=q1l s i0 hlt0
  have h123:s[i0]=123:=by rw [<- UInt8.toNat_inj,q16 s i0 hlt0];exact hb0
  obtain ⟨R,hR⟩:∃ R,R=parseL (frm s i0):=⟨_,rfl⟩
  have HRE:=hid hR
  have HR0:Hid (parseG (s.size-i0) ⟨bsOf [],[],[]⟩ true (q0t (frm s (i0+1)))=R):=by
   show _=_
   rw [hR]
   unfold parseL
   rw [<- frm_len,hcons,h123]
   rfl
  have q1:decide ((s.size:Int)<=(i0:Int))=false:=by simp;omega
  have q2:((s[i0].toNat:Int) != 123)=false:=by rw [q16 s i0 hlt0,hb0];rfl
  obtain ⟨w4,hw4⟩:∃ w4,w4=(w.alloc (.cells #[.string ⟨#[]⟩,.slice none 0 0,.slice none 0 0] 44)).alloc (.cells #[.string ⟨#[]⟩,.slice none 0 0,.slice none 0 0] 44):=⟨_,rfl⟩
  have M0:Pm3 w ⟨⟨#[]⟩,[],[]⟩ (.slice none 0 0) (.slice none 0 0) w4:=by
   rw [hw4]
   refine ⟨(AB.made w _).alloc _,?_,⟨q20 _ _ _ _,q20 _ _ _ _,by simp [World.size_alloc]⟩,⟨⟨_,_,_,rfl⟩,_,_,_,rfl⟩,((Below.refl _ _).alloc (Nat.le_refl _) _).alloc (by simp) _⟩
   have:=AB.made (w.alloc (.cells #[.string ⟨#[]⟩,.slice none 0 0,.slice none 0 0] 44)) [.string ⟨#[]⟩,.slice none 0 0,.slice none 0 0]
   rwa [World.size_alloc] at this
  have R0:Hid (Pc3Rel s i0 R w (.int .i64 ((i0+1:Nat):Int)) (.int .i64 0) w4):=⟨s.size-i0,_,i0+1,0,_,_,by omega,rfl,rfl,by omega,by omega,HR0.out,by simp,by simp,M0⟩
  clear hcons h123 hR hb0 HR0 M0
  go_enter Tryz.func212,Tryz.ntmps212
  go_upto_region 4 with (fail)
  rw [<- hw4]
  clear hw4
  go_wp2
  have q0:decide (s.size<=i0)=false:=by simp;omega
  have q00:decide ((i0:Int)<0)=false:=by simp
  simp only [q0,q00,Bool.or_false]
  clear q0 q00
  go_loopw [8,9] (fun vp vn wr=>Pc3Rel s i0 R w vp vn wr) (fun vp _ _=>s.size-(intOf vp).toNat)
  case atStart=>exact R0.out
  case round=>
   clear R0 q1 q2
   obtain ⟨f,a,p,n,xc,xp,hp,rfl,rfl,hf,hnp,hpg,hcl,hpl,hM⟩:=hrel
   have q9:decide ((n:Int)<=(s.size:Int))=true:=by simp;omega
   have HPG:=hid hpg
   have HM:=hid hM
   have HS0:Hid (∃ q:Nat,p<=q/\q<=s.size/\Value.int .i64 (p:Int)=.int .i64 q/\q0t (frm s q)=q0t (frm s p)/\(q=p\/(frm s p).head?=some 32)):=⟨p,Nat.le_refl _,hp,rfl,rfl,.inl rfl⟩
   clear hpg hM
   go_wp2
   go_loop [10] (fun vq=>∃ q:Nat,p<=q/\q<=s.size/\vq=.int .i64 q/\q0t (frm s q)=q0t (frm s p)/\(q=p\/(frm s p).head?=some 32)) (fun vq=>s.size-(intOf vq).toNat)
   case atStart=>exact HS0.out
   case round=>
    clear HS0
    obtain ⟨q,hpq,hq,rfl,hsk,hhd⟩:=hrel
    have HSK:=hid hsk
    have HHD:=hid hhd
    clear hsk hhd
    by_cases hlt:q<s.size
    ·have hcn:=q1l s q hlt
     have g1:decide ((s.size:Int)<=(q:Int))=false:=by simp;omega
     by_cases h32:s[q]=32
     ·have q1:((s[q].toNat:Int)==32)=true:=by rw [h32];rfl
      have HSK2:Hid (q0t (frm s (q+1))=q0t (frm s p)):=by
       show _=_
       rw [<- HSK.out,hcn]
       unfold q0t
       rw [List.dropWhile_cons_of_pos (by rw [h32];rfl)]
      have HHD2:Hid ((frm s p).head?=some 32):=by
       rcases HHD.out with h | h
       ·show _=_;rw [<- h,hcn,h32];rfl
       ·exact h
      clear hcn h32
      go_wp2
      go_round
      case rel=>exact ⟨q+1,by omega,by omega,by go_num,HSK2.out,.inr HHD2.out⟩
      case measure=>simp [intOf];omega
     ·have q1:((s[q].toNat:Int)==32)=false:=by
       rw [beq_eq_false_iff_ne];intro e;exact h32 (by rw [<- UInt8.toNat_inj];show _=32;omega)
      have hF:frm s q=q0t (frm s p):=by
       rw [<- HSK.out,hcn]
       unfold q0t
       rw [List.dropWhile_cons_of_neg (by unfold isSp;simp [h32])]
      have hPQ:parseG f a (decide (n=0)||decide ((frm s p).head?=some 32)) (frm s q)=R:=by rw [hF];exact HPG.out
      have hsep:(decide ((frm s p).head?=some 32))=decide (q≠p):=by
       rcases HHD.out with h | h
       ·subst h
        rw [hcn,List.head?_cons]
        simp [h32]
       ·rw [h]
        have:q≠p:=by
         rintro rfl
         rw [hcn,List.head?_cons] at h
         exact h32 (Option.some.inj h)
        simp [this]
      rw [hsep] at hPQ
      have HPQ:=hid hPQ
      obtain ⟨⟨xa,xn,xk,rfl⟩,ya,yn,yk,rfl⟩:=HM.out.sl
      have r0:=HM.out.res.cell 0 _ rfl
      have r1:=HM.out.res.cell 1 _ rfl
      have r2:=HM.out.res.cell 2 _ rfl
      have f0:=HM.out.res.free 0
      have f1:=HM.out.res.free 1
      have f2:=HM.out.res.free 2
      have p0:=HM.out.at_.cell 0 _ rfl
      have p1:=HM.out.at_.cell 1 _ rfl
      have p2:=HM.out.at_.cell 2 _ rfl
      have l0:=HM.out.at_.free 0
      have l1:=HM.out.at_.free 1
      have l2:=HM.out.at_.free 2
      have FB:=hid (fun x y z=>q0k (p:=w.heap.size) HM.out.bel (Nat.le_refl _) x y z)
      by_cases h125:s[q]=125
      ·have e2:((s[q].toNat:Int)==125)=true:=by rw [h125];rfl
       have HV:Hid (R=some (a,frm s (q+1))):=by
        show R=_
        rw [<- HPQ.out,hcn,h125,parseG_brace _ _ _ _ (by omega)]
       clear hcn h125 h32 hF hPQ hsep
       go_wp2
       exact bodyPost_ret (v:=.tuple #[.agg #[.string a.id,.slice xa xn xk,.slice ya yn yk],.int .i64 ((q:Int)+1),.int .i64 0]) (by simp [results,Tryz.results212,go_sem,r0,r1,r2]) rfl ⟨_,_,_,_,_,_,_,_,_,rfl,FB.out _ _ _,.inl ⟨rfl,a,q+1,by omega,by simp,HRE.out.symm.trans HV.out⟩⟩
      ·have e2:((s[q].toNat:Int)==125)=false:=by
        rw [beq_eq_false_iff_ne];intro e;exact h125 (by rw [<- UInt8.toNat_inj];show _=125;omega)
       by_cases hbad:0<n/\q=p
       ·have e3:decide ((0:Int)<(n:Int))=true:=by simp;omega
        have e4:((q:Int)==(p:Int))=true:=by rw [beq_iff_eq];omega
        have e3n:decide (0<n)=true:=by simp;omega
        have e4n:(q==p)=true:=by rw [beq_iff_eq];omega
        have HV:Hid (R=none):=by
         show R=_
         have h1:(decide (n=0)||decide (q≠p))=false:=by
          rw [decide_eq_false (by omega),decide_eq_false (by omega)];rfl
         have:=HPQ.out
         rw [h1,hcn,parseG_nosep _ _ _ _ (by omega) h125] at this
         exact this.symm
        clear hcn h125 h32 hF hPQ hsep hbad
        go_wp2
        exact bodyPost_ret (v:=.tuple #[.agg #[.string ⟨#[]⟩,.slice none 0 0,.slice none 0 0],.int .i64 0,.int .i64 5]) (by simp [results,Tryz.results212,go_sem,r0,r1,r2]) rfl ⟨_,_,_,_,_,_,_,_,_,rfl,FB.out _ _ _,.inr ⟨by decide,HRE.out.symm.trans HV.out⟩⟩
       ·have h1:(decide (n=0)||decide (q≠p))=true:=by
         by_cases hn:n=0
         ·rw [decide_eq_true hn];rfl
         ·rw [decide_eq_false hn,Bool.false_or,decide_eq_true_eq];intro e;exact hbad ⟨by omega,e⟩
        have HPT:Hid (parseG f a true (frm s q)=R):=by show _=_;rw [<- h1];exact HPQ.out
        have e34:(decide ((0:Int)<(n:Int))=false/\decide (0<n)=false)\/(decide ((0:Int)<(n:Int))=true/\decide (0<n)=true/\((q:Int)==(p:Int))=false/\(q==p)=false):=by
         by_cases hn:n=0
         ·left;exact ⟨by simp;omega,by simp;omega⟩
         ·right;exact ⟨by simp;omega,by simp;omega,by rw [beq_eq_false_iff_ne];intro e;exact hbad ⟨by omega,by omega⟩,by rw [beq_eq_false_iff_ne];intro e;exact hbad ⟨by omega,e⟩⟩
        have IT:=hid (rItem_any (w.heap.size+2) a s q _ _ wr HM.out.av hcl hpl hs hlt)
        have H125:Hid (s[q]≠125):=h125
        clear hcn h125 h32 hF hPQ hsep hbad h1 FB HPQ
        rcases e34 with ⟨e3,e3n⟩ | ⟨e3,e3n,e4,e4n⟩
        all_goals
         go_wp2_with fail
         refine IT.out.mono ?_
         rintro e w1 ⟨x,vc',vp',t,m,rfl,hb1,hk1,hsl,hres⟩
         obtain ⟨⟨xa',xn',xk',rfl⟩,ya',yn',yk',rfl⟩:=hsl
         have j2:=hk1.2 _ _ HM.out.res
         have j1:=hk1.2 _ _ HM.out.at_
         have hBW:Below w.heap.size w w1:=HM.out.bel.trans (hb1.mono (by omega))
         have hz1:w.heap.size+2<=w1.heap.size:=Nat.le_trans HM.out.av.le hk1.1
         have HRES:=hid hres
         clear r0 r1 r2 f0 f1 f2 p0 p1 p2 l0 l1 l2 hres hb1 hk1
         have r0:=j2.cell 0 _ rfl
         have r1:=j2.cell 1 _ rfl
         have r2:=j2.cell 2 _ rfl
         have f0:=j2.free 0
         have f1:=j2.free 1
         have f2:=j2.free 2
         have l0:=j1.free 0
         have l1:=j1.free 1
         have l2:=j1.free 2
         have p0:=j1.cell 0 _ rfl
         have p1:=j1.cell 1 _ rfl
         have p2:=j1.cell 2 _ rfl
         have J1:=hid j1
         have J2:=hid j2
         have HBW:=hid hBW
         have HBF:=hid ((q0k (p:=w.heap.size) hBW (Nat.le_refl _) (.string ⟨#[]⟩) (.slice none 0 0) (.slice none 0 0)).alloc (by simp [set3,World.setCell];omega) (.cells #[.string x,.slice xa' xn' xk',.slice ya' yn' yk'] 44))
         clear j1 j2 hBW
         have hlt3:w.heap.size+1<w1.heap.size:=by omega
         have hlt4:w.heap.size<w1.heap.size:=by omega
         by_cases hm:m=0
         ·subst hm
          obtain ⟨a',q2,hq2,rfl,HI,rfl,hc2,hp2,HA2⟩:∃ (a':At) (q2:Nat),q2<=s.size/\t=q2/\Hid (q2h a (frm s q)=some (a',frm s q2))/\a'.id=x/\a'.cls.length<=32/\a'.prs.length<=32/\Hid (AvO (w.heap.size+2) a' (.slice xa' xn' xk') (.slice ya' yn' yk') w1):=by
           rcases HRES.out with ⟨_,h⟩ | ⟨h,_⟩
           ·exact h
           ·exact absurd rfl h
          have hqq:=item_less a a' s q q2 hlt hq2 HI.out
          have HPG2:Hid (parseG (f-1) a' (decide (n+1=0)||decide ((frm s q2).head?=some 32)) (q0t (frm s q2))=R):=by
           show _=_
           rw [decide_eq_false (by omega),Bool.false_or,<- HPT.out,q1l s q hlt]
           refine (parseG_next f a a' _ _ _ (by omega) H125.out ?_).symm
           rw [<- q1l s q hlt];exact HI.out
          have HMF:Hid (Pm3 w a' (.slice xa' xn' xk') (.slice ya' yn' yk') ((set3 w1 (w.heap.size+1) (.string a'.id) (.slice xa' xn' xk') (.slice ya' yn' yk')).alloc (.cells #[.string a'.id,.slice xa' xn' xk',.slice ya' yn' yk'] 44))):=by
           refine ⟨(((J2.out.far (by omega) 0 _).far (by omega) 1 _).far (by omega) 2 _).alloc _,(((J1.out.set 0 _).set 1 _).set 2 _).alloc _,?_,⟨⟨_,_,_,rfl⟩,_,_,_,rfl⟩,(q0k (p:=w.heap.size+1) HBW.out (by omega) _ _ _).alloc (by simp [set3,World.setCell];omega) _⟩
           exact (HA2.out.set3 J1.out _ _ _).below ((Below.refl _ _).alloc (Nat.le_refl _) _)
          clear HRES HBF HI HPT HM HBW
          go_wp2
          go_roundw
          case rel=>exact ⟨f-1,a',q2,n+1,_,_,hq2,rfl,by go_num,by omega,by omega,HPG2.out,hc2,hp2,HMF.out⟩
          case measure=>simp [intOf];omega
         ·have e5:(m != 0)=true:=by rw [bne_iff_ne];exact hm
          have HV:Hid (R=none):=by
           show R=_
           rcases HRES.out with ⟨h,_⟩ | ⟨_,h⟩
           ·exact absurd h hm
           ·rw [<- HPT.out,q1l s q hlt]
            exact parseG_bad f a _ _ (by omega) H125.out (by rw [<- q1l s q hlt];exact h)
          clear HRES HPT HM HBW
          go_wp2
          exact bodyPost_ret (v:=.tuple #[.agg #[.string ⟨#[]⟩,.slice none 0 0,.slice none 0 0],.int .i64 0,.int .i64 m]) (by simp [results,Tryz.results212,go_sem,r0,r1,r2,hlt4]) rfl ⟨_,_,_,_,_,_,_,_,_,rfl,HBF.out,.inr ⟨hm,HRE.out.symm.trans HV.out⟩⟩
    ·have g1:decide ((s.size:Int)<=(q:Int))=true:=by simp;omega
     have HV:Hid (R=none):=by
      show R=_
      have h1:q0t (frm s p)=[]:=by rw [<- HSK.out,frm_end s q (by omega)];rfl
      have:=HPG.out
      rw [h1,parseG_end _ _ _ (by omega)] at this
      exact this.symm
     have r0:=HM.out.res.cell 0 _ rfl
     have r1:=HM.out.res.cell 1 _ rfl
     have r2:=HM.out.res.cell 2 _ rfl
     have f0:=HM.out.res.free 0
     have f1:=HM.out.res.free 1
     have f2:=HM.out.res.free 2
     have FB:=hid (fun x y z=>q0k (p:=w.heap.size) HM.out.bel (Nat.le_refl _) x y z)
     go_wp2
     exact bodyPost_ret (v:=.tuple #[.agg #[.string ⟨#[]⟩,.slice none 0 0,.slice none 0 0],.int .i64 0,.int .i64 5]) (by simp [results,Tryz.results212,go_sem,r0,r1,r2]) rfl ⟨_,_,_,_,_,_,_,_,_,rfl,FB.out _ _ _,.inr ⟨by decide,HRE.out.symm.trans HV.out⟩⟩
end Go.Proofs.YtlbioncagkkkoaaGreatDoor
