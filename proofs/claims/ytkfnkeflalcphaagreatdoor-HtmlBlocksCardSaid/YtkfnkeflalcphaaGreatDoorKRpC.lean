/- Contracts of publisherref03.word from any index, value, hasKey at a row of one's own. Contracts of publisherref03.class, item: attributes that are handed by value, their rows of one's own. The contract of publisherref03.Parse. -/
import Derived.Test.YtkfnkeflalcphaaGreatDoorKPaG
set_option maxHeartbeats 4000000
set_option maxRecDepth 100000
open Go.Lib (hid)
namespace Go.Proofs.YtkfnkeflalcphaaGreatDoor
open Go.RowKit.Below renaming refl->jD7
open Nat renaming le_refl->jD8,le_trans->jD9
open Option.some renaming inj->jE0
open Go.World renaming size_alloc->jE5,setCell->jF1
open Go renaming World->jG9,Value->jGk
open Go.RowKit
set_option linter.unusedVariables false
set_option linter.unusedSimpArgs false
theorem mF (s:ByteArray) (i0:Nat) (w:jG9) (hs:s.size<=1000000000) (hi:i0<=s.size) : Calls Tryz.prog 114 #[.string s,.int .i64 i0] w fun e w'=>e=.returned (.int .i64 (jc s i0:Nat))/\w=w':=by
 obtain ⟨V,hV⟩:∃ V,V=jc s i0:=⟨_,rfl⟩;rw [<- hV];have HV:=hid hV;clear hV;go_enter Tryz.func114,Tryz.ntmps114;go_wp2
 go_loop [1] (fun vi=>∃ k:Nat,i0+k<=s.size/\vi=.int .i64 ((i0+k:Nat):Int)/\∀ j x,j<k->(aN s i0)[j]?=some x->iA x=true) (fun i=>s.size-(intOf i).toNat)
 case atStart=>exact ⟨0,hi,rfl,fun j x hj=>by omega⟩
 case round=>
  obtain ⟨k,hk,rfl,hall⟩:=hrel;have HA:=hid hall;obtain ⟨q,hq⟩:∃ q,q=i0+k:=⟨_,rfl⟩;rw [<- hq] at hk ⊢;have HQ:=hid hq;have hlk:k<=(aN s i0).length:=by rw [iG];omega
  clear hall hq;by_cases hlt:q<s.size
  ·have hgl:=UInt8.toNat_lt s[q];have IN:=hid (fun w=>DU s[q].toNat w hgl);have HG:Hid ((aN s i0)[k]?=some s[q]):=by
    exact jd2
   cases hn:H8 s[q].toNat with
   | true=>
    rw [hn] at IN;have HN:=hid hn;clear hn;go_wp2_with fail
    refine (IN.out _).mono ?_;rintro e w1 ⟨rfl,rfl⟩;go_wp2
    go_round
    case rel=>
     refine ⟨k+1,by have:=HQ.out;omega,by have:=HQ.out;congr 1;omega,fun j x hj hx=>?_⟩;exact Nu
    case measure=>simp [intOf];omega
   | false=>
    rw [hn] at IN;have hw:V=q:=by exact jd1
    exact Nv
  ·exact jd0
def pV (s:ByteArray) (i:Nat) (w:jG9) (e:Ending) (w':jG9):Prop:=
 (∃ (v:ByteArray) (n:Int) (b:Bool),e=.returned (.tuple #[.string v,.int .i64 n,.bool b])/\((b=true/\∃ q:Nat,q<=s.size/\n=q/\zR (aN s i)=some (v,aN s q))\/(b=false/\zR (aN s i)=none)))/\Below w.heap.size w w'
def Vp (s:ByteArray) (R:Option (List UInt8 × List UInt8)) (w:jG9) (vi vo:jGk) (wr:jG9):Prop:=
 ∃ (i:Nat) (acc:List UInt8),i<=s.size/\vi=.int .i64 i/\vo=.string (bY acc)/\bO (aN s i) acc=R/\acc.length<=i/\w=wr
theorem NR (acc:List UInt8) (s:ByteArray) (i:Nat) (h:i<s.size):bY acc++s.extract i (i+1)=bY (acc++[s[i]]):=by
 apply ByteArray.ext;apply Array.toList_inj.1;unfold bY;rw [ByteArray.data_append,Array.toList_append,ByteArray.data_extract,Array.toList_extract];have h1:i<s.data.toList.length:=by simpa using h
 have h2:s.data.toList.extract i (i+1)=[s[i]]:=by rw [List.extract_eq_take_drop,List.drop_eq_getElem_cons h1,show i+1-i=1 by omega];rfl
 rw [h2]
theorem ji8{P:Prop}(h:P:=by
 cases NX
 all_goals
  go_enter Tryz.func288,Tryz.ntmps288;go_wp2_with fail
  refine (WE.out _).mono ?_;rintro e w1 ⟨rfl,rfl⟩;go_wp2_with fail
  refine (NM.out _).mono ?_;rintro e w2 ⟨rfl,rfl⟩;go_wp2
  go_ret3
  first | exact nX.out (by simp) | exact um.out (by simp)):P:=h
theorem LU (s:ByteArray) (i0:Nat) (w:jG9) (hs:s.size<=1000000) (hi:i0<=s.size) : Calls Tryz.prog 288 #[.string s,.int .i64 i0] w (pV s i0 w):=by
 by_cases hq:i0<s.size/\bt s i0=34;case neg=>
  have WE:=hid (fun w=>mF s i0 w (by omega) hi);refine jd4 ?_;intro hwl hwg hhd zT hvs;have NM:=hid (fun w=>V8 (s.extract i0 (jc s i0)) w hvs);generalize jc s i0=T at *;have nX:Hid (dZ (s.extract i0 T)=true->pV s i0 w (.returned (.tuple #[.string (s.extract i0 T),.int .i64 (T:Int),.bool true])) w):=by intro hn;exact ⟨⟨_,_,_,rfl,.inl ⟨rfl,T,hwl,rfl,by rw [zT.out,if_pos hn]⟩⟩,jD7 _ _⟩
  have um:Hid (dZ (s.extract i0 T)=false->pV s i0 w (.returned (.tuple #[.string ⟨#[]⟩,.int .i64 0,.bool false])) w):=by intro hn;exact ⟨⟨_,_,_,rfl,.inr ⟨rfl,by rw [zT.out,if_neg (by rw [hn];decide)]⟩⟩,jD7 _ _⟩
  have hc:(s.size<=i0)\/(i0<s.size/\bt s i0≠34):=by omega
  have q3:decide ((s.size:Int)<(i0:Int))=false:=by simp;omega
  clear hhd hvs hq;generalize dZ (s.extract i0 T)=NX at *;rcases hc with hc | ⟨hc,hb⟩
  ·have q1:decide ((s.size:Int)<=(i0:Int))=true:=by simp;omega
   exact ji8
  ·refine H9 ?_;intro q1;have q2:((s[i0].toNat:Int) != 34)=true:=by rw [jk s i0 hc,bne_iff_ne];omega
   exact ji8
 case pos=>
  obtain ⟨BD,hb0⟩:=hq;refine jd5 ?_;intro lQ rz zT R hR;rw [<- hR] at zT;refine H9 ?_;intro q1;have q2:((s[i0].toNat:Int) != 34)=false:=by rw [jk s i0 BD,hb0];rfl
  have R0:Hid (Vp s R w (.int .i64 ((i0+1:Nat):Int)) (.string ⟨#[]⟩) w):=⟨i0+1,[],by omega,rfl,rfl,hR.symm,Nat.zero_le _,rfl⟩;clear lQ rz hR hb0;go_enter Tryz.func288,Tryz.ntmps288
  (try simp only [List.append_eq,List.cons_append,List.nil_append])
  go_wp2;have q0:decide (s.size<=i0)=false:=by simp;omega
  simp only [q0];clear q0
  go_loopw [1,8] (fun vi vo wr=>Vp s R w vi vo wr) (fun i _ _=>s.size-(intOf i).toNat)
  case atStart=>exact R0.out
  case round=>
   clear R0 q1 q2;obtain ⟨i,acc,hi,rfl,rfl,hqv,hal,rfl⟩:=hrel;have Qr:=hid hqv;have has:(bY acc).size=acc.length:=List.size_toArray;clear hqv;by_cases hlt:i<s.size
   ·have hcn:=q0z s i hlt;have eb:=jk s i hlt;have g1:decide ((s.size:Int)<=(i:Int))=false:=by simp;omega
    by_cases rz:s[i]=34
    ·have q3:((s[i].toNat:Int) != 34)=false:=by rw [rz];rfl
     have V5:Hid (R=some (acc,aN s (i+1))):=by show R=_;rw [<- Qr.out,hcn,bO.eq_def];simp only;rw [if_pos rz]
     have CV:=hid (fun w=>Ao (bY acc) w (by omega));have nX:Hid (dG (bY acc)=true->∀ w',Below w.heap.size w w'->pV s i0 w (.returned (.tuple #[.string (bY acc),.int .i64 ((i:Int)+1),.bool true])) w'):=by intro hl w' hw';refine ⟨⟨_,_,_,rfl,.inl ⟨rfl,i+1,by omega,by simp,?_⟩⟩,hw'⟩;rw [zT.out,V5.out];simp [hl]
     have um:Hid (dG (bY acc)=false->∀ w',Below w.heap.size w w'->pV s i0 w (.returned (.tuple #[.string ⟨#[]⟩,.int .i64 0,.bool false])) w'):=by intro hl w' hw';refine ⟨⟨_,_,_,rfl,.inr ⟨rfl,?_⟩⟩,hw'⟩;rw [zT.out,V5.out];simp [hl]
     clear hcn rz eb;generalize dG (bY acc)=LL at *;cases LL
     all_goals
      go_wp2_with fail
      refine (CV.out _).mono ?_;rintro e w3 ⟨rfl,hb3⟩;go_wp2
      go_ret3
      first | exact nX.out (by simp) _ hb3 | exact um.out (by simp) _ hb3
    ·have q3:((s[i].toNat:Int) != 34)=true:=by
      rw [bne_iff_ne];intro e;exact rz (by rw [<- UInt8.toNat_inj];show _=34;omega)
     by_cases Dt:s[i]=92
     ·have q4:((s[i].toNat:Int)==92)=true:=by rw [Dt];rfl
      by_cases hlt2:i+1<s.size
      ·have Ia:=q0z s (i+1) hlt2;have hgl:=UInt8.toNat_lt s[i+1];have q5:decide ((s.size:Int)<=(i:Int)+1)=false:=by simp;omega
       have hsn:=NR acc s (i+1) hlt2;by_cases hd:s[i+1]=34\/s[i+1]=92
       ·refine jd7 ?_;intro Qg;refine jd6 ?_;intro hde;have gV:=hid hsn;clear hcn Ia hd rz Dt eb hsn;rcases hde with q6 | ⟨q6,q7⟩
        all_goals
         go_wp2;go_roundw;case rel=>exact ⟨i+1+1,acc++[s[i+1]],(by omega),(by go_num),(by rw [<- gV.out]),Qg.out,(by simp;omega),rfl⟩
         case measure=>simp [intOf];omega
       ·have V5:Hid (zR (aN s i0)=none):=by
         show _=none;have:R=none:=by rw [<- Qr.out,hcn,Ia,bO.eq_def];simp only;rw [if_neg rz,if_pos Dt,if_neg hd]
         rw [zT.out,this]
        have q6:((s[i+1].toNat:Int) != 34)=true:=by rw [bne_iff_ne];intro e;exact hd (.inl (by rw [<- UInt8.toNat_inj];show _=34;omega))
        have q7:((s[i+1].toNat:Int) != 92)=true:=by rw [bne_iff_ne];intro e;exact hd (.inr (by rw [<- UInt8.toNat_inj];show _=92;omega))
        clear hcn Ia hd rz Dt eb hsn;go_wp2
        go_ret3
        exact ⟨⟨_,_,_,rfl,.inr ⟨rfl,V5.out⟩⟩,jD7 _ _⟩
      ·have q5:decide ((s.size:Int)<=(i:Int)+1)=true:=by simp;omega
       have V5:Hid (zR (aN s i0)=none):=by
        show _=none;have:R=none:=by rw [<- Qr.out,hcn,q1z s (i+1) (by omega),bO.eq_def];simp only;rw [if_neg rz,if_pos Dt]
        rw [zT.out,this]
       clear hcn rz Dt eb;go_wp2
       go_ret3
       exact ⟨⟨_,_,_,rfl,.inr ⟨rfl,V5.out⟩⟩,jD7 _ _⟩
     ·have q4:((s[i].toNat:Int)==92)=false:=by
       rw [beq_eq_false_iff_ne];intro e;exact Dt (by rw [<- UInt8.toNat_inj];show _=92;omega)
      have Qg:Hid (bO (aN s (i+1)) (acc++[s[i]])=R):=by
       show _=R;rw [<- Qr.out,hcn]
       conv=>rhs;rw [bO.eq_def]
       simp only;rw [if_neg rz,if_neg Dt]
      have gV:=hid (NR acc s i hlt);clear hcn rz Dt eb;go_wp2;go_roundw;case rel=>exact ⟨i+1,acc++[s[i]],(by omega),(by go_num),(by rw [<- gV.out]),Qg.out,(by simp;omega),rfl⟩
      case measure=>simp [intOf];omega
   ·have hie:i=s.size:=by omega
    have g1:decide ((s.size:Int)<=(i:Int))=true:=by simp;omega
    have V5:Hid (zR (aN s i0)=none):=by
     show _=none;have:R=none:=by rw [<- Qr.out,q1z s i (by omega),bO.eq_def]
     rw [zT.out,this]
    clear hie;go_wp2
    go_ret3
    exact ⟨⟨_,_,_,rfl,.inr ⟨rfl,V5.out⟩⟩,jD7 _ _⟩
theorem Fg (l:List Pr) (x:ByteArray) (B:Nat) (v:jGk) (w:jG9) (h:w.ownsRow B 61 2 v l.length (Ib l)) (hl:l.length<=100000) : Calls Tryz.prog 214 #[v,.string x] w fun e w'=>e=.returned (.bool (dS (l.map Pr.key) x))/\w=w':=by
 obtain ⟨av,cv,rfl⟩:=kW h;obtain ⟨V,hV⟩:∃ V,V=dS (l.map Pr.key) x:=⟨_,rfl⟩;rw [<- hV];have H:=hid h;have HV:=hid hV;clear hV h;go_enter Tryz.func214,Tryz.ntmps214;go_wp2
 go_loop [5] (fun vi=>∃ k:Nat,k<=l.length/\vi=.int .i64 k/\V=dS ((l.map Pr.key).drop k) x) (fun i=>l.length-(intOf i).toNat)
 case atStart=>exact ⟨0,Nat.zero_le _,rfl,HV.out⟩
 case round=>
  obtain ⟨k,hk,rfl,hv⟩:=hrel;by_cases hlt:k<l.length
  ·obtain ⟨p,hp⟩:∃ p,l[k]?=some p:=⟨_,List.getElem?_eq_getElem hlt⟩;obtain ⟨g,cap,Qq,hcap⟩:=jE H.out (by omega);obtain ⟨rfl,rfl⟩:av=some ⟨g,0,none⟩/\cv=cap:=by simpa using Qq
   have c0:w.cell? ⟨g,k*2,none⟩=some (.string p.key):=by rw [H.out.cellAt (k*2) (by omega)];exact (oD l k p hp).1
   rw [uP (l.map Pr.key) k p.key x (by rw [List.getElem?_map,hp];rfl)] at hv;have Jj:=hid hv;clear hv hp Qq HV;by_cases he:p.key=x
   ·subst he;have q1:(p.key.toList==p.key.toList)=true:=beq_self_eq_true _;go_wp2;go_ret;exact ⟨by rw [Jj.out];simp,rfl⟩
   ·have q1:(p.key.toList==x.toList)=false:=Ee he;have Ym:Hid (V=dS ((l.map Pr.key).drop (k+1)) x):=by show V=_;rw [Jj.out];simp [he]
    exact jd8
  ·have Jj:Hid (V=false):=by show V=false;rw [hv,List.drop_eq_nil_of_le (by simp;omega)];rfl
   clear hv HV;go_wp2;go_ret;exact ⟨by rw [Jj.out];rfl,rfl⟩
open Go.RowKit
structure uY (B:Nat) (a:At) (vc vp:jGk) (w:jG9):Prop where
 cls:w.ownsRow B 9 1 vc a.cls.length (a.cls.map Value.string)
 aD:w.ownsRow B 61 2 vp a.aD.length (Ib a.aD)
 le:B<=w.heap.size
section
variable {B p:Nat} {a:At} {vc vp v1:jGk} {w w1:jG9} {cs:List jGk}
theorem uY.below (h:uY B a vc vp w) (hb:Below w.heap.size w w1):uY B a vc vp w1:=
 ⟨q24 h.cls hb,q24 h.aD hb,jD9 h.le hb.size⟩
theorem uY.off (h:uY B a vc vp w) (hp:AB p cs w):vc.ownBlock≠some p/\vp.ownBlock≠some p:=by
 constructor
 ·intro e;obtain ⟨c1,f1,e1⟩:=Lib.ownsRow_kind h.cls p e;unfold AB at hp;rw [e1] at hp;simp at hp
 ·intro e;obtain ⟨c1,f1,e1⟩:=Lib.ownsRow_kind h.aD p e;unfold AB at hp;rw [e1] at hp;simp at hp
theorem IU {e:TypeId} {k n:Nat} {v:jGk} {xs:List jGk} (h:w.ownsRow B e k v n xs) (hp:v.ownBlock≠some p) (j:Nat) (u:jGk):(w.setCell ⟨p,j,none⟩ u).ownsRow B e k v n xs:=by
 refine h.kept (row:=some p) ⟨rfl,rfl,rfl,by simp [jF1],fun i _ hne=>Below.heap_setCell w ⟨p,j,none⟩ u i (fun e=>hne (by rw [e]))⟩ ?_;cases hv:v.ownBlock with
 | none=>exact .inl rfl
 | some g=>right;intro e;exact hp (by rw [hv];exact e)
theorem uY.set (h:uY B a vc vp w) (hp:AB p cs w) (j:Nat) (u:jGk):uY B a vc vp (w.setCell ⟨p,j,none⟩ u):=
 ⟨IU h.cls (h.off hp).1 j u,IU h.aD (h.off hp).2 j u,by simpa [jF1] using h.le⟩
theorem uY.apart (h:uY B a vc vp w):vc.ownBlock=none\/vc.ownBlock≠vp.ownBlock:=by
 cases hc:vc.ownBlock with
 | none=>exact .inl rfl
 | some g=>
  exact jd9
theorem uY.apart' (h:uY B a vc vp w):vp.ownBlock=none\/vp.ownBlock≠vc.ownBlock:=by exact jdj
theorem uY.Um {x:ByteArray} {o:Obj} (h:uY B a vc vp w) (hg:(w.alloc o).grownBy w1 vc.ownBlock) (hown:w1.ownsRow B 9 1 v1 (a.cls.length+1) (a.cls.map Value.string++[.string x])) : uY B ⟨a.id,a.cls++[x],a.aD⟩ v1 vp w1/\Below B w w1/\∀ p cs,AB p cs w->AB p cs w1:=by
 refine Nw ?_;intro hal h0;have hr:∀ g,vc.ownBlock=some g->B<=g:=fun g hgv=>(h.cls.lt g hgv).1
 refine ⟨⟨by simpa using hown,h0.aD.kept hg h.apart',jD9 h0.le hg.size⟩,?_,fun p cs hp=>?_⟩
 ·exact ((hal.mono h.le).grown hg h0.le hr)
 ·exact (hg.block p (hp.alloc o).lt (fun e=>(h.off hp).1 e.symm)).trans (hp.alloc o)
theorem uY.pushP {x:Pr} {o:Obj} (h:uY B a vc vp w) (hg:(w.alloc o).grownBy w1 vp.ownBlock) (hown:w1.ownsRow B 61 2 v1 (a.aD.length+1) (Ib a.aD++pcs x)) : uY B ⟨a.id,a.cls,a.aD++[x]⟩ vc v1 w1/\Below B w w1/\∀ p cs,AB p cs w->AB p cs w1:=by
 refine Nw ?_;intro hal h0;have hr:∀ g,vp.ownBlock=some g->B<=g:=fun g hgv=>(h.aD.lt g hgv).1
 refine ⟨⟨h0.cls.kept hg h.apart,?_,jD9 h0.le hg.size⟩,?_,fun p cs hp=>?_⟩
 ·have e:Ib (a.aD++[x])=Ib a.aD++pcs x:=by simp [Ib]
  rw [e];simpa using hown
 ·exact ((hal.mono h.le).grown hg h0.le hr)
 ·exact (hg.block p (hp.alloc o).lt (fun e=>(h.off hp).2 e.symm)).trans (hp.alloc o)
def iQ (w:jG9) (p:Nat) (a b c:jGk):jG9:=((w.setCell ⟨p,0,none⟩ a).setCell ⟨p,1,none⟩ b).setCell ⟨p,2,none⟩ c
theorem uY.iQ (h:uY B a vc vp w) (hp:AB p cs w) (x y z:jGk):uY B a vc vp (iQ w p x y z):=
 ((h.set hp 0 x).set (hp.set 0 x) 1 y).set ((hp.set 0 x).set 1 y) 2 z
theorem Jk {B:Nat} {w0:jG9} (h:Below B w0 w) (hp:B<=p) (x y z:jGk):Below B w0 (iQ w p x y z):=
 ((h.setCell (p:=⟨p,0,none⟩) hp x).setCell (p:=⟨p,1,none⟩) hp y).setCell (p:=⟨p,2,none⟩) hp z
end
def KA (w w':jG9):Prop:=w.heap.size<=w'.heap.size/\∀ p cs,AB p cs w->AB p cs w'
theorem KA.of {w w':jG9} (h:Below w.heap.size w w'):KA w w':=⟨h.size,fun p cs hp=>(h.block p hp.lt).trans hp⟩
theorem KA.trans {w w1 w2:jG9} (h:KA w w1) (k:KA w1 w2):KA w w2:=⟨jD9 h.1 k.1,fun p cs hp=>k.2 p cs (h.2 p cs hp)⟩
theorem KA.set {w w1:jG9} (h:KA w w1) {p:Nat} (hp:w.heap.size<=p) (j:Nat) (u:jGk):KA w (w1.setCell ⟨p,j,none⟩ u):=
 ⟨by simpa [jF1] using h.1,fun q cs hq=>(h.2 q cs hq).far (by have:=hq.lt;omega) j u⟩
theorem KA.iQ {w w1:jG9} (h:KA w w1) {p:Nat} (hp:w.heap.size<=p) (x y z:jGk):KA w (iQ w1 p x y z):=((h.set hp 0 x).set hp 1 y).set hp 2 z
theorem KA.alloc {w w1:jG9} (h:KA w w1) (o:Obj):KA w (w1.alloc o):=⟨jD9 h.1 (by simp),fun p cs hp=>(h.2 p cs hp).alloc o⟩
def YH (B:Nat) (a a':At) (bad:Prop) (w:jG9) (e:Ending) (w':jG9):Prop:=
 ∃ (vc vp:jGk) (n:Int),e=.returned (.tuple #[.agg #[.string a.id,vc,vp],.int .i64 n])/\Below B w w'/\KA w w'/\((∃ a1 n1 c1,vc=.slice a1 n1 c1)/\∃ a2 n2 c2,vp=.slice a2 n2 c2)/\((n=0/\¬ bad/\uY B a' vc vp w')\/(n≠0/\bad))
theorem NS{P Q:Prop}(q:Q)(h:Nonempty Q->P:=by
 intro qQ;have r0:=j2.cell 0 _ rfl;have r1:=j2.cell 1 _ rfl;have r2:=j2.cell 2 _ rfl;have f0:=j2.free 0;have f1:=j2.free 1;have f2:=j2.free 2;revert r0 r1 r2 f0 f1 f2;exact qQ.elim fun x=>x):P:=h ⟨q⟩
theorem ji9{P:Prop}(h:P:=by
 rw [hw1];have:=AB.made (w.alloc (.cells #[.string a.id,.slice av a.cls.length cv,.slice ap a.aD.length cp] 45)) [.string ⟨#[]⟩,.slice none 0 0,.slice none 0 0]
 rwa [World.size_alloc] at this):P:=h
theorem LV (B:Nat) (a:At) (x:ByteArray) (vc vp:jGk) (w:jG9) (h:uY B a vc vp w) (hc:a.cls.length<=100000) : Calls Tryz.prog 287 #[.agg #[.string a.id,vc,vp],.string x] w (YH B a ⟨a.id,a.cls++[x],a.aD⟩ (dS a.cls x=true\/32<=a.cls.length) w):=by
 obtain ⟨i0,hi0,hz0,hz1,hz2⟩:=info_parts Gb;obtain ⟨av,cv,rfl⟩:=kW h.cls;obtain ⟨ap,cp,rfl⟩:=kW h.aD;obtain ⟨w1,hw1⟩:∃ w1,w1=(w.alloc (.cells #[.string a.id,.slice av a.cls.length cv,.slice ap a.aD.length cp] 45)).alloc (.cells #[.string ⟨#[]⟩,.slice none 0 0,.slice none 0 0] 45):=⟨_,rfl⟩;have b1:Below w.heap.size w w1:=by rw [hw1];exact ((jD7 _ _).alloc (jD8 _) _).alloc (by simp) _
 have k1:AB w.heap.size [.string a.id,.slice av a.cls.length cv,.slice ap a.aD.length cp] w1:=by rw [hw1];exact (AB.made w _).alloc _
 have k2:AB (w.heap.size+1) [.string ⟨#[]⟩,.slice none 0 0,.slice none 0 0] w1:=by exact ji9
 have A1:=hid (h.below b1);have HT:=hid (tX a.cls x _ w1 (EF.qJ A1.out.cls));obtain ⟨V,hV⟩:∃ V,V=dS a.cls x:=⟨_,rfl⟩;rw [<- hV] at HT;have HV:=hid hV;have hle:=h.le;have K1:=hid k1;have K2:=hid k2;have B1:=hid b1;have KW:=hid (KA.of b1);have p0:=k1.cell 0 _ rfl;have p1:=k1.cell 1 _ rfl;have p2:=k1.cell 2 _ rfl;have g1:=k1.free 1;have r0:=k2.cell 0 _ rfl;have r1:=k2.cell 1 _ rfl;have r2:=k2.cell 2 _ rfl;have f0:=k2.free 0;have f1:=k2.free 1;have f2:=k2.free 2;clear hV h k1 k2 b1;cases V with
 | true=>
  go_enter Tryz.func287,Tryz.ntmps287;go_upto_region 1 with (fail)
  rw [<- hw1];clear hw1;go_wp2_with fail
  refine HT.out.mono ?_;rintro e w2 ⟨rfl,rfl⟩;go_wp2;exact bodyPost_ret (v:=.tuple #[.agg #[.string a.id,.slice av a.cls.length cv,.slice ap a.aD.length cp],.int .i64 7]) (by simp [results,Tryz.results287,go_sem,r0,r1,r2]) rfl ⟨_,_,_,rfl,Jk (p:=w.heap.size+1) (B1.out.mono hle) (by omega) _ _ _,KW.out.iQ (by omega) _ _ _,⟨⟨_,_,_,rfl⟩,_,_,_,rfl⟩,.inr ⟨by decide,.inl HV.out.symm⟩⟩
 | false=>
  by_cases h32:32<=a.cls.length
  ·have q1:decide ((32:Int)<=(a.cls.length:Int))=true:=by simp;omega
   go_enter Tryz.func287,Tryz.ntmps287;go_upto_region 1 with (fail)
   rw [<- hw1];clear hw1;go_wp2_with fail
   refine HT.out.mono ?_;rintro e w2 ⟨rfl,rfl⟩;go_wp2;exact bodyPost_ret (v:=.tuple #[.agg #[.string a.id,.slice av a.cls.length cv,.slice ap a.aD.length cp],.int .i64 3]) (by simp [results,Tryz.results287,go_sem,r0,r1,r2]) rfl ⟨_,_,_,rfl,Jk (p:=w.heap.size+1) (B1.out.mono hle) (by omega) _ _ _,KW.out.iQ (by omega) _ _ _,⟨⟨_,_,_,rfl⟩,_,_,_,rfl⟩,.inr ⟨by decide,.inr h32⟩⟩
  ·have q1:decide ((32:Int)<=(a.cls.length:Int))=false:=by simp;omega
   have hmx:a.cls.length<32:=by omega
   go_enter Tryz.func287,Tryz.ntmps287;go_upto_region 1 with (fail)
   rw [<- hw1];clear hw1;go_wp2_with fail
   refine HT.out.mono ?_;rintro e w2 ⟨rfl,rfl⟩;go_wp2_with (at_builtin;go_loud (refine Ma _ rfl (.tmp 17) (.tmp 19) 43 rfl B 9 i0 _ 1 16 Tryz.underlying43 hi0 hz0 hz1 hz2 rfl (by decide) (.slice av a.cls.length cv) a.cls.length (a.cls.map Value.string) rfl (A1.out.cls.alloc _) (w1.heap.size+1) (some ⟨w1.heap.size,0,none⟩) 1 1 [.string x] rfl ?g1 ?g2 ?g3 ?g4 ?g5 ?_))
   case g1=>exact ⟨rfl,fun _=>⟨_,rfl,by simp,Gh w1 [.string x] _⟩⟩
   case g2=>intro u hu;simp at hu;subst hu;rfl
   case g3=>unfold maxLen;omega
   case g4=>omega
   case g5=>have:=A1.out.le;simp;omega
   intro v1 w2 hown hg _;obtain ⟨a1,c1,rfl⟩:=kW hown;obtain ⟨HR,HB,HP⟩:=A1.out.Um hg hown;have j1:=HP _ _ K1.out;have j2:=HP _ _ K2.out;have HB2:Below B w w2:=(B1.out.mono hle).trans HB;have hw2:w1.heap.size<=w2.heap.size:=by have:=hg.size;rw [jE5] at this;omega
   have Nf:KA w w2:=KW.out.trans ⟨hw2,HP⟩;clear p0 p1 p2 g1 r0 r1 r2 f0 f1 f2 hown hg HP HB;have p0:=j1.cell 0 _ rfl;have p1:=j1.cell 1 _ rfl;have p2:=j1.cell 2 _ rfl;have g1:=j1.free 1;refine NS ?_;intro r0 r1 r2 f0 f1 f2;have HRS:=hid (((HR.set j1 1 (.slice a1 (a.cls.length+1) c1)).iQ (j2.far (by omega) 1 (.slice a1 (a.cls.length+1) c1)) (.string a.id) (.slice a1 (a.cls.length+1) c1) (.slice ap a.aD.length cp)));have Xr:=hid (Jk (p:=w.heap.size+1) (HB2.setCell (p:=⟨w.heap.size,1,none⟩) hle (.slice a1 (a.cls.length+1) c1)) (by omega) (.string a.id) (.slice a1 (a.cls.length+1) c1) (.slice ap a.aD.length cp));have Kl:=hid ((Nf.set (p:=w.heap.size) (jD8 _) 1 (.slice a1 (a.cls.length+1) c1)).iQ (p:=w.heap.size+1) (by omega) (.string a.id) (.slice a1 (a.cls.length+1) c1) (.slice ap a.aD.length cp));clear HR HB2 Nf hw2 j1 j2;go_wp2;exact bodyPost_ret (v:=.tuple #[.agg #[.string a.id,.slice a1 (a.cls.length+1) c1,.slice ap a.aD.length cp],.int .i64 0]) (by simp [results,Tryz.results287,go_sem,r0,r1,r2]) rfl ⟨_,_,_,rfl,Xr.out,Kl.out,⟨⟨_,_,_,rfl⟩,_,_,_,rfl⟩,.inl ⟨rfl,by rintro (h | h);(rw [<- HV.out] at h;cases h);omega,HRS.out⟩⟩
def Fh (B:Nat) (a:At) (s:ByteArray) (i:Nat) (w:jG9) (e:Ending) (w':jG9):Prop:=
 ∃ (x:ByteArray) (vc vp:jGk) (t n:Int),e=.returned (.tuple #[.agg #[.string x,vc,vp],.int .i64 t,.int .i64 n])/\Below B w w'/\KA w w'/\((∃ a1 n1 c1,vc=.slice a1 n1 c1)/\∃ a2 n2 c2,vp=.slice a2 n2 c2) /\
  ((n=0/\∃ (a':At) (q:Nat),q<=s.size/\t=q/\kE a (aN s i)=some (a',aN s q)/\a'.id=x/\a'.cls.length<=32/\a'.aD.length<=32/\uY B a' vc vp w')\/(n≠0/\kE a (aN s i)=none))
theorem IV{P:Prop}(h:P:=by
 go_enter Tryz.func269,Tryz.ntmps269;go_upto_region 1 with (fail)
 rw [<- hw1];clear hw1;go_wp2_with fail
 refine (WE.out _).mono ?_;rintro e w2 ⟨rfl,rfl⟩;go_wp2_with fail
 refine (NM.out _).mono ?_;rintro e w2 ⟨rfl,rfl⟩;go_wp2;exact bodyPost_ret (v:=.tuple #[.agg #[.string a.id,.slice av a.cls.length cv,.slice ap a.aD.length cp],.int .i64 0,.int .i64 5]) (by simp [results,Tryz.results269,go_sem,r0,r1,r2]) rfl (um.out _ _ _ (Jk (p:=w.heap.size+1) BW.out (by omega) _ _ _) (KW.out.iQ (by omega) _ _ _) (by decide) gJ.out)):P:=h
theorem PZ (B:Nat) (a:At) (s:ByteArray) (i:Nat) (vc vp:jGk) (w:jG9) (h:uY B a vc vp w) (hc:a.cls.length<=32) (hp:a.aD.length<=32) (hs:s.size<=100000) (hi:i<s.size) : Calls Tryz.prog 269 #[.agg #[.string a.id,vc,vp],.string s,.int .i64 i] w (Fh B a s i w):=by
 obtain ⟨i0,hi0,hz0,hz1,hz2⟩:=info_parts kN;obtain ⟨av,cv,rfl⟩:=kW h.cls;obtain ⟨ap,cp,rfl⟩:=kW h.aD;obtain ⟨w1,hw1⟩:∃ w1,w1=(w.alloc (.cells #[.string a.id,.slice av a.cls.length cv,.slice ap a.aD.length cp] 45)).alloc (.cells #[.string ⟨#[]⟩,.slice none 0 0,.slice none 0 0] 45):=⟨_,rfl⟩;have b1:Below w.heap.size w w1:=by rw [hw1];exact ((jD7 _ _).alloc (jD8 _) _).alloc (by simp) _
 have k1:AB w.heap.size [.string a.id,.slice av a.cls.length cv,.slice ap a.aD.length cp] w1:=by rw [hw1];exact (AB.made w _).alloc _
 have k2:AB (w.heap.size+1) [.string ⟨#[]⟩,.slice none 0 0,.slice none 0 0] w1:=by exact ji9
 have A1:=hid (h.below b1);have hle:=h.le;have K1:=hid k1;have K2:=hid k2;have BW:=hid (b1.mono hle);have KW:=hid (KA.of b1);have p0:=k1.cell 0 _ rfl;have p1:=k1.cell 1 _ rfl;have p2:=k1.cell 2 _ rfl;have g0:=k1.free 0;have g2:=k1.free 2;have r0:=k2.cell 0 _ rfl;have r1:=k2.cell 1 _ rfl;have r2:=k2.cell 2 _ rfl;have f0:=k2.free 0;have f1:=k2.free 1;have f2:=k2.free 2;have hsz:w.heap.size+2<=w1.heap.size:=by rw [hw1];simp [jE5]
 have hcn:=q0z s i hi;have um:Hid (∀ (w':jG9) (t n:Int),Below B w w'->KA w w'->n≠0->kE a (aN s i)=none->Fh B a s i w (.returned (.tuple #[.agg #[.string a.id,.slice av a.cls.length cv,.slice ap a.aD.length cp],.int .i64 t,.int .i64 n])) w'):=
  fun w' t n hb hk hn hz=>⟨_,_,_,_,_,rfl,hb,hk,⟨⟨_,_,_,rfl⟩,_,_,_,rfl⟩,.inr ⟨hn,hz⟩⟩
 clear h k1 k2 b1;by_cases Dv:s[i]=35
 ·have q1:((s[i].toNat:Int)==35)=true:=by rw [Dv];rfl
  have hsg:tu (aN s i)=aN s (i+1):=by rw [hcn,Dv];rfl
  have HIT:=jm a s i (i+1) hsg (by omega);rw [hcn,Dv,List.head?_cons,if_pos rfl] at HIT;rw [<- Dv,<- hcn] at HIT;have HIT:=hid HIT;have WE:Hid (∀ w,Calls Tryz.prog 114 #[.string s,.int .i64 ((i:Int)+1)] w fun e w'=>e=.returned (.int .i64 (jc s (i+1):Nat))/\w=w'):=fun w=>mF s (i+1) w (by omega) (by omega)
  have hwl:=jK s (i+1) (by omega);have hwg:i+1<=jc s (i+1):=Nat.le_add_right _ _;generalize jc s (i+1)=T at *;have hvs:(s.extract (i+1) T).size<=1000000000:=by rw [ByteArray.size_extract];omega
  have NM:=hid (fun w=>V8 (s.extract (i+1) T) w hvs);generalize dZ (s.extract (i+1) T)=NX at *;clear hcn hsg hvs Dv;cases NX with
  | false=>
   have gJ:Hid (kE a (aN s i)=none):=HIT.out;exact IV
  | true=>
   have gJ:Hid (kE a (aN s i)=if aW a.id=false then none else some (⟨s.extract (i+1) T,a.cls,a.aD⟩,aN s T)):=HIT.out;cases hem:aW a.id with
   | false=>
    have hie:a.id.toList.isEmpty=false:=by rw [oN];exact hem
    have mh:Hid (kE a (aN s i)=none):=by show _=_;rw [gJ.out,if_pos hem]
    clear HIT gJ hem;go_enter Tryz.func269,Tryz.ntmps269;go_upto_region 1 with (fail)
    rw [<- hw1];clear hw1;go_wp2_with fail
    refine (WE.out _).mono ?_;rintro e w2 ⟨rfl,rfl⟩;go_wp2_with fail
    refine (NM.out _).mono ?_;rintro e w2 ⟨rfl,rfl⟩;go_wp2;exact bodyPost_ret (v:=.tuple #[.agg #[.string a.id,.slice av a.cls.length cv,.slice ap a.aD.length cp],.int .i64 0,.int .i64 7]) (by simp [results,Tryz.results269,go_sem,r0,r1,r2]) rfl (um.out _ _ _ (Jk (p:=w.heap.size+1) BW.out (by omega) _ _ _) (KW.out.iQ (by omega) _ _ _) (by decide) mh.out)
   | true=>
    have hie:a.id.toList.isEmpty=true:=by rw [oN];exact hem
    have mh:Hid (kE a (aN s i)=some (⟨s.extract (i+1) T,a.cls,a.aD⟩,aN s T)):=by show _=_;rw [gJ.out,hem];rfl
    have HR:=hid ((A1.out.set K1.out 0 (.string (s.extract (i+1) T))).iQ (K2.out.far (by omega) 0 (.string (s.extract (i+1) T))) (.string (s.extract (i+1) T)) (.slice av a.cls.length cv) (.slice ap a.aD.length cp));have HB:=hid (Jk (p:=w.heap.size+1) (BW.out.setCell (p:=⟨w.heap.size,0,none⟩) hle (.string (s.extract (i+1) T))) (by omega) (.string (s.extract (i+1) T)) (.slice av a.cls.length cv) (.slice ap a.aD.length cp));have Kl:=hid ((KW.out.set (p:=w.heap.size) (jD8 _) 0 (.string (s.extract (i+1) T))).iQ (p:=w.heap.size+1) (by omega) (.string (s.extract (i+1) T)) (.slice av a.cls.length cv) (.slice ap a.aD.length cp));clear HIT gJ hem;go_enter Tryz.func269,Tryz.ntmps269;go_upto_region 1 with (fail)
    rw [<- hw1];clear hw1;go_wp2_with fail
    refine (WE.out _).mono ?_;rintro e w2 ⟨rfl,rfl⟩;go_wp2_with fail
    refine (NM.out _).mono ?_;rintro e w2 ⟨rfl,rfl⟩;go_wp2;exact bodyPost_ret (v:=.tuple #[.agg #[.string (s.extract (i+1) T),.slice av a.cls.length cv,.slice ap a.aD.length cp],.int .i64 (T:Int),.int .i64 0]) (by simp [results,Tryz.results269,go_sem,r0,r1,r2]) rfl ⟨_,_,_,_,_,rfl,HB.out,Kl.out,⟨⟨_,_,_,rfl⟩,_,_,_,rfl⟩,.inl ⟨rfl,⟨s.extract (i+1) T,a.cls,a.aD⟩,T,hwl,rfl,mh.out,rfl,hc,hp,⟨HR.out.cls,HR.out.aD,HR.out.le⟩⟩⟩
 ·have q1:((s[i].toNat:Int)==35)=false:=by
   rw [beq_eq_false_iff_ne];intro e;exact Dv (by rw [<- UInt8.toNat_inj];show _=35;omega)
  by_cases h46:s[i]=46
  ·have q2:((s[i].toNat:Int)==46)=true:=by rw [h46];rfl
   have hsg:tu (aN s i)=aN s (i+1):=by rw [hcn,h46];rfl
   have HIT:=jm a s i (i+1) hsg (by omega);rw [hcn,h46,List.head?_cons,if_neg (show ¬ (some (46:UInt8)=some 35) by decide),if_pos rfl] at HIT;rw [<- h46,<- hcn] at HIT;have HIT:=hid HIT;have WE:Hid (∀ w,Calls Tryz.prog 114 #[.string s,.int .i64 ((i:Int)+1)] w fun e w'=>e=.returned (.int .i64 (jc s (i+1):Nat))/\w=w'):=fun w=>mF s (i+1) w (by omega) (by omega)
   have hwl:=jK s (i+1) (by omega);have hwg:i+1<=jc s (i+1):=Nat.le_add_right _ _;generalize jc s (i+1)=T at *;have hvs:(s.extract (i+1) T).size<=1000000000:=by rw [ByteArray.size_extract];omega
   have NM:=hid (fun w=>V8 (s.extract (i+1) T) w hvs);have AC:=hid (LV B a (s.extract (i+1) T) _ _ w1 A1.out (by omega));generalize dZ (s.extract (i+1) T)=NX at *;clear hcn hsg hvs Dv h46;cases NX with
   | false=>
    have gJ:Hid (kE a (aN s i)=none):=HIT.out;exact IV
   | true=>
    go_enter Tryz.func269,Tryz.ntmps269;go_upto_region 1 with (fail)
    rw [<- hw1];clear hw1;go_wp2_with fail
    refine (WE.out _).mono ?_;rintro e w2 ⟨rfl,rfl⟩;go_wp2_with fail
    refine (NM.out _).mono ?_;rintro e w2 ⟨rfl,rfl⟩;go_wp2_with fail
    refine AC.out.mono ?_;rintro e w3 ⟨Qe,Qf,n,rfl,hb3,hk3,hsv,hres⟩;have iO:=hid hres;have j2:=hk3.2 _ _ K2.out;have hs3:w.heap.size+2<=w3.heap.size:=jD9 hsz hk3.1;obtain ⟨⟨a1,n1,c1,rfl⟩,a2,n2,c2,rfl⟩:=hsv;have jv6:Hid (Fh B a s i w (.returned (.tuple #[.agg #[.string a.id,.slice a1 n1 c1,.slice a2 n2 c2],.int .i64 (T:Int),.int .i64 n])) ((iQ w3 (w.heap.size+1) (.string a.id) (.slice a1 n1 c1) (.slice a2 n2 c2)).alloc (.cells #[.string a.id,.slice a1 n1 c1,.slice a2 n2 c2] 45))):=by
     refine ⟨_,_,_,_,_,rfl,(Jk (p:=w.heap.size+1) (BW.out.trans hb3) (by omega) _ _ _).alloc (by simp [iQ,jF1];omega) _,((KW.out.trans hk3).iQ (p:=w.heap.size+1) (by omega) _ _ _).alloc _,⟨⟨_,_,_,rfl⟩,_,_,_,rfl⟩,?_⟩;rcases iO.out with ⟨h1,h2,h3⟩ | ⟨h1,h2⟩
     ·refine .inl ⟨h1,⟨a.id,a.cls++[s.extract (i+1) T],a.aD⟩,T,hwl,rfl,?_,rfl,?_,hp,(h3.iQ j2 _ _ _).below ((jD7 _ _).alloc (jD8 _) _)⟩
      ·rw [HIT.out,if_neg (by decide),if_neg (fun e=>h2 (.inl e)),if_neg (fun e=>h2 (.inr e))]
      ·simp only [List.length_append,List.length_singleton];have:¬ 32<=a.cls.length:=fun e=>h2 (.inr e)
       omega
     ·exact jdz
    clear hb3 hk3 hres iO p0 p1 p2 g0 g2 r0 r1 r2 f0 f1 f2;refine NS ?_;intro r0 r1 r2 f0 f1 f2;clear j2;have hlt3:w.heap.size+1<w3.heap.size:=by omega
    go_wp2;exact bodyPost_ret (v:=.tuple #[.agg #[.string a.id,.slice a1 n1 c1,.slice a2 n2 c2],.int .i64 (T:Int),.int .i64 n]) (by simp [results,Tryz.results269,go_sem,r0,r1,r2,hlt3]) rfl jv6.out
  ·have q2:((s[i].toNat:Int)==46)=false:=by
    rw [beq_eq_false_iff_ne];intro e;exact h46 (by rw [<- UInt8.toNat_inj];show _=46;omega)
   have hsg:tu (aN s i)=aN s i:=by exact je0
   have HIT:=jm a s i i hsg (by omega);rw [show (aN s i).head?=some s[i] from lN s i hi,if_neg (fun e=>Dv (jE0 e)),if_neg (fun e=>h46 (jE0 e))] at HIT;have HIT:=hid HIT;have WE:Hid (∀ w,Calls Tryz.prog 114 #[.string s,.int .i64 (i:Int)] w fun e w'=>e=.returned (.int .i64 (jc s i:Nat))/\w=w'):=fun w=>mF s i w (by omega) (by omega)
   have hwl:=jK s i (by omega);have hwg:i<=jc s i:=Nat.le_add_right _ _;generalize jc s i=T at *;have hvs:(s.extract i T).size<=1000000000:=by rw [ByteArray.size_extract];omega
   have NM:=hid (fun w=>V8 (s.extract i T) w hvs);generalize dZ (s.extract i T)=NX at *;clear hcn hsg hvs Dv h46;cases NX with
   | false=>
    have gJ:Hid (kE a (aN s i)=none):=HIT.out;exact IV
   | true=>
    by_cases hT:T<s.size
    ·have hcT:=q0z s T hT;have q3:decide ((s.size:Int)<=(T:Int))=false:=by simp;omega
     by_cases Pb:s[T]=61
     ·have q4:((s[T].toNat:Int) != 61)=false:=by rw [Pb];rfl
      have gJ:Hid (kE a (aN s i)=match zR (aN s (T+1)) with
       | none=>none
       | some (v,r)=>if dS (keysOf a) (s.extract i T)=true then none else if 32<=a.aD.length then none
        else some (⟨a.id,a.cls,a.aD++[⟨s.extract i T,v⟩]⟩,r)):=by
       show _=_;rw [HIT.out,if_neg (by decide),hcT,Pb];rfl
      have RV:Hid (∀ w,Calls Tryz.prog 288 #[.string s,.int .i64 ((T:Int)+1)] w (pV s (T+1) w)):=fun w=>LU s (T+1) w (by omega) (by omega)
      clear HIT hcT Pb;go_enter Tryz.func269,Tryz.ntmps269;go_upto_region 1 with (fail)
      rw [<- hw1];clear hw1;go_wp2_with fail
      refine (WE.out _).mono ?_;rintro e w2 ⟨rfl,rfl⟩;go_wp2_with fail
      refine (NM.out _).mono ?_;rintro e w2 ⟨rfl,rfl⟩;go_wp2_with fail
      refine (RV.out _).mono ?_;rintro e w3 ⟨⟨v,n,bb,rfl,hres⟩,hbel⟩;have A3:=hid (A1.out.below hbel);have BW3:=hid (BW.out.trans (hbel.mono A1.out.le));have KW3:=hid (KW.out.trans (KA.of hbel));have K13:=hid ((KA.of hbel).2 _ _ K1.out);have K23:=hid ((KA.of hbel).2 _ _ K2.out);have iO:=hid hres;clear hres hbel p0 p1 p2 g0 g2 r0 r1 r2 f0 f1 f2;have p0:=K13.out.cell 0 _ rfl;have p1:=K13.out.cell 1 _ rfl;have p2:=K13.out.cell 2 _ rfl;have g2:=K13.out.free 2;have r0:=K23.out.cell 0 _ rfl;have r1:=K23.out.cell 1 _ rfl;have r2:=K23.out.cell 2 _ rfl;have f0:=K23.out.free 0;have f1:=K23.out.free 1;have f2:=K23.out.free 2;cases bb with
      | false=>
       have mh:Hid (kE a (aN s i)=none):=by
        show _=_;rcases iO.out with ⟨h1,_⟩ | ⟨_,h1⟩
        ·cases h1
        ·rw [gJ.out,h1]
       clear gJ;go_wp2;exact bodyPost_ret (v:=.tuple #[.agg #[.string a.id,.slice av a.cls.length cv,.slice ap a.aD.length cp],.int .i64 0,.int .i64 5]) (by simp [results,Tryz.results269,go_sem,r0,r1,r2]) rfl (um.out _ _ _ (Jk (p:=w.heap.size+1) BW3.out (by omega) _ _ _) (KW3.out.iQ (by omega) _ _ _) (by decide) mh.out)
      | true=>
       obtain ⟨q,hq,rfl,HVq⟩:∃ q:Nat,q<=s.size/\n=q/\Hid (zR (aN s (T+1))=some (v,aN s q)):=by
        rcases iO.out with ⟨_,h⟩ | ⟨h1,_⟩
        ·exact h
        ·cases h1
       have HKY:=hid (fun w (h:w.ownsRow B 61 2 (.slice ap a.aD.length cp) a.aD.length (Ib a.aD))=>Fg a.aD (s.extract i T) B _ w h (by omega));have mh:Hid (kE a (aN s i)=if dS (keysOf a) (s.extract i T)=true then none else if 32<=a.aD.length then none
        else some (⟨a.id,a.cls,a.aD++[⟨s.extract i T,v⟩]⟩,aN s q)):=by show _=_;rw [gJ.out,HVq.out]
       obtain ⟨V,hV⟩:∃ V,V=dS (keysOf a) (s.extract i T):=⟨_,rfl⟩;have hV2:dS (a.aD.map Pr.key) (s.extract i T)=V:=hV.symm;rw [hV2] at HKY;rw [<- hV] at mh;clear gJ HVq iO hV hV2;cases V with
       | true=>
        have Vq:Hid (kE a (aN s i)=none):=mh.out;go_wp2_with fail
        refine (HKY.out _ A3.out.aD).mono ?_;rintro e w4 ⟨rfl,rfl⟩;go_wp2;exact bodyPost_ret (v:=.tuple #[.agg #[.string a.id,.slice av a.cls.length cv,.slice ap a.aD.length cp],.int .i64 0,.int .i64 7]) (by simp [results,Tryz.results269,go_sem,r0,r1,r2]) rfl (um.out _ _ _ (Jk (p:=w.heap.size+1) BW3.out (by omega) _ _ _) (KW3.out.iQ (by omega) _ _ _) (by decide) Vq.out)
       | false=>
        by_cases h32:32<=a.aD.length
        ·have q5:decide ((32:Int)<=(a.aD.length:Int))=true:=by simp;omega
         have Vq:Hid (kE a (aN s i)=none):=by show _=_;rw [mh.out,if_neg (by decide),if_pos h32]
         go_wp2_with fail
         refine (HKY.out _ A3.out.aD).mono ?_;rintro e w4 ⟨rfl,rfl⟩;go_wp2;exact bodyPost_ret (v:=.tuple #[.agg #[.string a.id,.slice av a.cls.length cv,.slice ap a.aD.length cp],.int .i64 0,.int .i64 3]) (by simp [results,Tryz.results269,go_sem,r0,r1,r2]) rfl (um.out _ _ _ (Jk (p:=w.heap.size+1) BW3.out (by omega) _ _ _) (KW3.out.iQ (by omega) _ _ _) (by decide) Vq.out)
        ·have q5:decide ((32:Int)<=(a.aD.length:Int))=false:=by simp;omega
         have Vq:Hid (kE a (aN s i)=some (⟨a.id,a.cls,a.aD++[⟨s.extract i T,v⟩]⟩,aN s q)):=by show _=_;rw [mh.out,if_neg (by decide),if_neg h32]
         go_wp2_with fail
         refine (HKY.out _ A3.out.aD).mono ?_;rintro e w4 ⟨rfl,rfl⟩;go_wp2_with (at_builtin;refine Ma _ rfl (.tmp 102) (.tmp 106) 24 rfl B 61 i0 _ 2 32 Tryz.underlying24 hi0 hz0 hz1 hz2 rfl (by decide) (.slice ap a.aD.length cp) a.aD.length (Ib a.aD) rfl (A3.out.aD.alloc _) (w3.heap.size+1) (some ⟨w3.heap.size,0,none⟩) 1 1 [.string (s.extract i T),.string v] rfl ?g1 ?g2 ?g3 ?g4 ?g5 ?_)
         case g1=>exact ⟨rfl,fun _=>⟨_,rfl,by simp,Gh w3 [.string (s.extract i T),.string v] _⟩⟩
         case g2=>intro u hu;simp at hu;rcases hu with rfl | rfl<;>rfl
         case g3=>unfold maxLen;omega
         case g4=>omega
         case g5=>have:=A3.out.le;simp;omega
         intro v1 w4 hown hg _;obtain ⟨a1,c1,rfl⟩:=kW hown;obtain ⟨HR,HB,HP⟩:=A3.out.pushP (x:=⟨s.extract i T,v⟩) hg hown;have j1:=HP _ _ K13.out;have j2:=HP _ _ K23.out;have hw4:w3.heap.size<=w4.heap.size:=by have:=hg.size;rw [jE5] at this;omega
         have HRF:=hid ((HR.set j1 2 (.slice a1 (a.aD.length+1) c1)).iQ (j2.far (by omega) 2 (.slice a1 (a.aD.length+1) c1)) (.string a.id) (.slice av a.cls.length cv) (.slice a1 (a.aD.length+1) c1));have YI:=hid (Jk (p:=w.heap.size+1) ((BW3.out.trans HB).setCell (p:=⟨w.heap.size,2,none⟩) hle (.slice a1 (a.aD.length+1) c1)) (by omega) (.string a.id) (.slice av a.cls.length cv) (.slice a1 (a.aD.length+1) c1));have HKF:=hid (((KW3.out.trans ⟨hw4,HP⟩).set (p:=w.heap.size) (jD8 _) 2 (.slice a1 (a.aD.length+1) c1)).iQ (p:=w.heap.size+1) (by omega) (.string a.id) (.slice av a.cls.length cv) (.slice a1 (a.aD.length+1) c1));clear p0 p1 p2 g2 r0 r1 r2 f0 f1 f2 hown hg HP HB HR hw4;have p0:=j1.cell 0 _ rfl;have p1:=j1.cell 1 _ rfl;have p2:=j1.cell 2 _ rfl;have g2:=j1.free 2;refine NS ?_;intro r0 r1 r2 f0 f1 f2;clear j1 j2;go_wp2;have hl1:(a.aD++[(⟨s.extract i T,v⟩:Pr)]).length<=32:=by simp only [List.length_append,List.length_singleton];omega
         exact bodyPost_ret (v:=.tuple #[.agg #[.string a.id,.slice av a.cls.length cv,.slice a1 (a.aD.length+1) c1],.int .i64 (q:Int),.int .i64 0]) (by simp [results,Tryz.results269,go_sem,r0,r1,r2]) rfl ⟨_,_,_,_,_,rfl,YI.out,HKF.out,⟨⟨_,_,_,rfl⟩,_,_,_,rfl⟩,.inl ⟨rfl,⟨a.id,a.cls,a.aD++[⟨s.extract i T,v⟩]⟩,q,hq,rfl,Vq.out,rfl,hc,hl1,HRF.out⟩⟩
     ·have q4:((s[T].toNat:Int) != 61)=true:=by rw [bne_iff_ne];intro e;exact Pb (by rw [<- UInt8.toNat_inj];show _=61;omega)
      have gJ:Hid (kE a (aN s i)=none):=by show _=_;rw [HIT.out,if_neg (by decide),lN s T hT,if_neg (fun e=>Pb (jE0 e))]
      clear HIT hcT Pb;exact IV
    ·have q3:decide ((s.size:Int)<=(T:Int))=true:=by simp;omega
     have gJ:Hid (kE a (aN s i)=none):=by show _=_;rw [HIT.out,if_neg (by decide),q1z s T (by omega),if_neg (by simp)]
     clear HIT;exact IV
open Go.RowKit
structure Pm3 (w:jG9) (a:At) (vc vp:jGk) (wr:jG9):Prop where
 res:AB w.heap.size [.string ⟨#[]⟩,.slice none 0 0,.slice none 0 0] wr
 at_:AB (w.heap.size+1) [.string a.id,vc,vp] wr
 av:uY (w.heap.size+2) a vc vp wr
 sl:(∃ a1 n1 c1,vc=.slice a1 n1 c1)/\∃ a2 n2 c2,vp=.slice a2 n2 c2
 aM:Below w.heap.size w wr
def Vr (s:ByteArray) (i0:Nat) (R:Option (At × List UInt8)) (w:jG9) (vp vn:jGk) (wr:jG9):Prop:=
 ∃ (f:Nat) (a:At) (p n:Nat) (xc xp:jGk),p<=s.size/\vp=.int .i64 p/\vn=.int .i64 n/\s.size-p+1<=f/\n+i0+1<=p/\vY f a (decide (n=0)||decide ((aN s p).head?=some 32)) (cu (aN s p))=R/\a.cls.length<=32/\a.aD.length<=32/\Pm3 w a xc xp wr
theorem jij{P:Prop}(h:P:=by
 go_enter Tryz.func245,Tryz.ntmps245;go_upto_region 1 with (fail)
 rw [<- hw1];clear hw1;go_wp2;exact bodyPost_ret (v:=.tuple #[.agg #[.string ⟨#[]⟩,.slice none 0 0,.slice none 0 0],.int .i64 0,.int .i64 5]) (by simp [results,Tryz.results245,go_sem,r0,r1,r2]) rfl ⟨_,_,_,_,_,_,_,_,_,rfl,HB.out,.inr ⟨by decide,HIT.out⟩⟩):P:=h
theorem jik{P:Prop}(h:P:=by
 go_wp2;exact bodyPost_ret (v:=.tuple #[.agg #[.string ⟨#[]⟩,.slice none 0 0,.slice none 0 0],.int .i64 0,.int .i64 5]) (by simp [results,Tryz.results245,go_sem,r0,r1,r2]) rfl ⟨_,_,_,_,_,_,_,_,_,rfl,FB.out _ _ _,.inr ⟨by decide,Yr.out.symm.trans HV.out⟩⟩):P:=h
theorem LW (s:ByteArray) (i0:Nat) (w:jG9) (hs:s.size<=100000) (hi0:i0<=s.size) : Calls Tryz.prog 245 #[.string s,.int .i64 i0] w (KS s i0 w):=by
 by_cases uR:i0<s.size/\bt s i0=123;case neg=>
  refine je5 ?_;intro HIT hc;obtain ⟨w1,hw1⟩:∃ w1,w1=w.alloc (.cells #[.string ⟨#[]⟩,.slice none 0 0,.slice none 0 0] 45):=⟨_,rfl⟩;have hab:AB w.heap.size [.string ⟨#[]⟩,.slice none 0 0,.slice none 0 0] w1:=by rw [hw1];exact AB.made w _
  refine Ng ?_;intro b1;have HB:=hid (Jk (p:=w.heap.size) b1 (jD8 _) (.string ⟨#[]⟩) (.slice none 0 0) (.slice none 0 0));have r0:=hab.cell 0 _ rfl;have r1:=hab.cell 1 _ rfl;have r2:=hab.cell 2 _ rfl;have f0:=hab.free 0;have f1:=hab.free 1;have f2:=hab.free 2;clear uR hab b1;rcases hc with hc | ⟨hc,hb⟩
  ·have q1:decide ((s.size:Int)<=(i0:Int))=true:=by simp;omega
   exact jij
  ·refine H9 ?_;intro q1;have q2:((s[i0].toNat:Int) != 123)=true:=by rw [jk s i0 hc,bne_iff_ne];omega
   exact jij
 case pos=>
  obtain ⟨BD,hb0⟩:=uR;refine je3 ?_;intro lQ uR R hR Yr HR0 q1 q2;obtain ⟨w4,hw4⟩:∃ w4,w4=(w.alloc (.cells #[.string ⟨#[]⟩,.slice none 0 0,.slice none 0 0] 45)).alloc (.cells #[.string ⟨#[]⟩,.slice none 0 0,.slice none 0 0] 45):=⟨_,rfl⟩;have M0:Pm3 w ⟨⟨#[]⟩,[],[]⟩ (.slice none 0 0) (.slice none 0 0) w4:=by
   rw [hw4];refine ⟨(AB.made w _).alloc _,?_,⟨sw _ _ _ _,sw _ _ _ _,by simp [jE5]⟩,⟨⟨_,_,_,rfl⟩,_,_,_,rfl⟩,((jD7 _ _).alloc (jD8 _) _).alloc (by simp) _⟩;have:=AB.made (w.alloc (.cells #[.string ⟨#[]⟩,.slice none 0 0,.slice none 0 0] 45)) [.string ⟨#[]⟩,.slice none 0 0,.slice none 0 0]
   rwa [jE5] at this
  have R0:Hid (Vr s i0 R w (.int .i64 ((i0+1:Nat):Int)) (.int .i64 0) w4):=⟨s.size-i0,_,i0+1,0,_,_,by omega,rfl,rfl,by omega,by omega,HR0.out,by simp,by simp,M0⟩;clear lQ uR hR hb0 HR0 M0;go_enter Tryz.func245,Tryz.ntmps245;go_upto_region 4 with (fail)
  rw [<- hw4];clear hw4;go_wp2;have q0:decide (s.size<=i0)=false:=by simp;omega
  have q00:decide ((i0:Int)<0)=false:=by simp
  simp only [q0,q00,Bool.or_false];clear q0 q00
  go_loopw [8,9] (fun vp vn wr=>Vr s i0 R w vp vn wr) (fun vp _ _=>s.size-(intOf vp).toNat)
  case atStart=>exact R0.out
  case round=>
   clear R0 q1 q2;obtain ⟨f,a,p,n,xc,xp,hp,rfl,rfl,hf,hnp,hpg,hcl,hpl,hM⟩:=hrel;have q9:decide ((n:Int)<=(s.size:Int))=true:=by simp;omega
   have Ji:=hid hpg;have HM:=hid hM;have HS0:Hid (∃ q:Nat,p<=q/\q<=s.size/\Value.int .i64 (p:Int)=.int .i64 q/\cu (aN s q)=cu (aN s p)/\(q=p\/(aN s p).head?=some 32)):=⟨p,jD8 _,hp,rfl,rfl,.inl rfl⟩;clear hpg hM;go_wp2
   go_loop [10] (fun vq=>∃ q:Nat,p<=q/\q<=s.size/\vq=.int .i64 q/\cu (aN s q)=cu (aN s p)/\(q=p\/(aN s p).head?=some 32)) (fun vq=>s.size-(intOf vq).toNat)
   case atStart=>exact HS0.out
   case round=>
    clear HS0;obtain ⟨q,hpq,hq,rfl,hsk,hhd⟩:=hrel;have Kw:=hid hsk;have Yq:=hid hhd;clear hsk hhd;by_cases hlt:q<s.size
    ·have hcn:=q0z s q hlt;have g1:decide ((s.size:Int)<=(q:Int))=false:=by simp;omega
     by_cases h32:s[q]=32
     ·have q1:((s[q].toNat:Int)==32)=true:=by rw [h32];rfl
      have jo4:Hid (cu (aN s (q+1))=cu (aN s p)):=by show _=_;rw [<- Kw.out,hcn];unfold cu;rw [List.dropWhile_cons_of_pos (by rw [h32];rfl)]
      have jo5:Hid ((aN s p).head?=some 32):=by
       rcases Yq.out with h | h
       ·show _=_;rw [<- h,hcn,h32];rfl
       ·exact h
      clear hcn h32;go_wp2
      go_round
      case rel=>exact ⟨q+1,by omega,by omega,by go_num,jo4.out,.inr jo5.out⟩
      case measure=>simp [intOf];omega
     ·have q1:((s[q].toNat:Int)==32)=false:=by
       rw [beq_eq_false_iff_ne];intro e;exact h32 (by rw [<- UInt8.toNat_inj];show _=32;omega)
      have hF:aN s q=cu (aN s p):=by rw [<- Kw.out,hcn];unfold cu;rw [List.dropWhile_cons_of_neg (by unfold eZ;simp [h32])]
      have hPQ:vY f a (decide (n=0)||decide ((aN s p).head?=some 32)) (aN s q)=R:=by rw [hF];exact Ji.out
      have hsep:(decide ((aN s p).head?=some 32))=decide (q≠p):=by
       rcases Yq.out with h | h
       ·subst h;rw [hcn,List.head?_cons];simp [h32]
       ·rw [h];have:q≠p:=by
         rintro rfl;rw [hcn,List.head?_cons] at h;exact h32 (jE0 h)
        simp [this]
      rw [hsep] at hPQ;have HPQ:=hid hPQ;obtain ⟨⟨xa,xn,xk,rfl⟩,ya,yn,yk,rfl⟩:=HM.out.sl;have r0:=HM.out.res.cell 0 _ rfl;have r1:=HM.out.res.cell 1 _ rfl;have r2:=HM.out.res.cell 2 _ rfl;have f0:=HM.out.res.free 0;have f1:=HM.out.res.free 1;have f2:=HM.out.res.free 2;have p0:=HM.out.at_.cell 0 _ rfl
      have p1:=HM.out.at_.cell 1 _ rfl
      have p2:=HM.out.at_.cell 2 _ rfl
      have l0:=HM.out.at_.free 0
      have l1:=HM.out.at_.free 1
      have l2:=HM.out.at_.free 2
      have FB:=hid (fun x y z=>Jk (p:=w.heap.size) HM.out.aM (jD8 _) x y z);by_cases mq:s[q]=125
      ·have e2:((s[q].toNat:Int)==125)=true:=by rw [mq];rfl
       have HV:Hid (R=some (a,aN s (q+1))):=by show R=_;rw [<- HPQ.out,hcn,mq,tC _ _ _ _ (by omega)]
       clear hcn mq h32 hF hPQ hsep;go_wp2;exact bodyPost_ret (v:=.tuple #[.agg #[.string a.id,.slice xa xn xk,.slice ya yn yk],.int .i64 ((q:Int)+1),.int .i64 0]) (by simp [results,Tryz.results245,go_sem,r0,r1,r2]) rfl ⟨_,_,_,_,_,_,_,_,_,rfl,FB.out _ _ _,.inl ⟨rfl,a,q+1,by omega,by simp,Yr.out.symm.trans HV.out⟩⟩
      ·have e2:((s[q].toNat:Int)==125)=false:=by
        rw [beq_eq_false_iff_ne];intro e;exact mq (by rw [<- UInt8.toNat_inj];show _=125;omega)
       by_cases hbad:0<n/\q=p
       ·have e3:decide ((0:Int)<(n:Int))=true:=by simp;omega
        have e4:((q:Int)==(p:Int))=true:=by rw [beq_iff_eq];omega
        have e3n:decide (0<n)=true:=by simp;omega
        have e4n:(q==p)=true:=by rw [beq_iff_eq];omega
        have HV:Hid (R=none):=by
         show R=_;have h1:(decide (n=0)||decide (q≠p))=false:=by rw [decide_eq_false (by omega),decide_eq_false (by omega)];rfl
         have:=HPQ.out;rw [h1,hcn,tF _ _ _ _ (by omega) mq] at this;exact this.symm
        clear hcn mq h32 hF hPQ hsep hbad;exact jik
       ·have h1:(decide (n=0)||decide (q≠p))=true:=by
         by_cases hn:n=0
         ·rw [decide_eq_true hn];rfl
         ·rw [decide_eq_false hn,Bool.false_or,decide_eq_true_eq];intro e;exact hbad ⟨by omega,e⟩
        have pJ:Hid (vY f a true (aN s q)=R):=by show _=_;rw [<- h1];exact HPQ.out
        have e34:(decide ((0:Int)<(n:Int))=false/\decide (0<n)=false)\/(decide ((0:Int)<(n:Int))=true/\decide (0<n)=true/\((q:Int)==(p:Int))=false/\(q==p)=false):=by
         by_cases hn:n=0
         ·left;exact ⟨by simp;omega,by simp;omega⟩
         ·right;exact ⟨by simp;omega,by simp;omega,by rw [beq_eq_false_iff_ne];intro e;exact hbad ⟨by omega,by omega⟩,by rw [beq_eq_false_iff_ne];intro e;exact hbad ⟨by omega,e⟩⟩
        have IT:=hid (PZ (w.heap.size+2) a s q _ _ wr HM.out.av hcl hpl hs hlt);have jv7:Hid (s[q]≠125):=mq;clear hcn mq h32 hF hPQ hsep hbad h1 FB HPQ;rcases e34 with ⟨e3,e3n⟩ | ⟨e3,e3n,e4,e4n⟩
        all_goals
         go_wp2_with fail
         refine IT.out.mono ?_;rintro e w1 ⟨x,Qe,Qf,t,m,rfl,hb1,hk1,hsl,hres⟩;obtain ⟨⟨xa',xn',xk',rfl⟩,ya',yn',yk',rfl⟩:=hsl;have j2:=hk1.2 _ _ HM.out.res;have j1:=hk1.2 _ _ HM.out.at_
         have hBW:Below w.heap.size w w1:=HM.out.aM.trans (hb1.mono (by omega));have hz1:w.heap.size+2<=w1.heap.size:=jD9 HM.out.av.le hk1.1;have iO:=hid hres;clear r0 r1 r2 f0 f1 f2 p0 p1 p2 l0 l1 l2 hres hb1 hk1;refine NS ?_;intro r0 r1 r2 f0 f1 f2;have l0:=j1.free 0;have l1:=j1.free 1;have l2:=j1.free 2;have p0:=j1.cell 0 _ rfl;have p1:=j1.cell 1 _ rfl;have p2:=j1.cell 2 _ rfl;have J1:=hid j1;have J2:=hid j2;have HBW:=hid hBW;have YI:=hid ((Jk (p:=w.heap.size) hBW (jD8 _) (.string ⟨#[]⟩) (.slice none 0 0) (.slice none 0 0)).alloc (by simp [iQ,jF1];omega) (.cells #[.string x,.slice xa' xn' xk',.slice ya' yn' yk'] 45));clear j1 j2 hBW;have hlt3:w.heap.size+1<w1.heap.size:=by omega
         have jzk:w.heap.size<w1.heap.size:=by omega
         by_cases hm:m=0
         ·subst hm;obtain ⟨a',q2,hq2,rfl,HI,rfl,hc2,hp2,HA2⟩:∃ (a':At) (q2:Nat),q2<=s.size/\t=q2/\Hid (kE a (aN s q)=some (a',aN s q2))/\a'.id=x/\a'.cls.length<=32/\a'.aD.length<=32/\Hid (uY (w.heap.size+2) a' (.slice xa' xn' xk') (.slice ya' yn' yk') w1):=by
           rcases iO.out with ⟨_,h⟩ | ⟨h,_⟩
           ·exact h
           ·exact absurd rfl h
          have hqq:=Dx a a' s q q2 hlt hq2 HI.out;have jo7:Hid (vY (f-1) a' (decide (n+1=0)||decide ((aN s q2).head?=some 32)) (cu (aN s q2))=R):=by show _=_;rw [decide_eq_false (by omega),Bool.false_or,<- pJ.out,q0z s q hlt];refine (vZ f a a' _ _ _ (by omega) jv7.out ?_).symm;rw [<- q0z s q hlt];exact HI.out
          have HMF:Hid (Pm3 w a' (.slice xa' xn' xk') (.slice ya' yn' yk') ((iQ w1 (w.heap.size+1) (.string a'.id) (.slice xa' xn' xk') (.slice ya' yn' yk')).alloc (.cells #[.string a'.id,.slice xa' xn' xk',.slice ya' yn' yk'] 45))):=by refine ⟨(((J2.out.far (by omega) 0 _).far (by omega) 1 _).far (by omega) 2 _).alloc _,(((J1.out.set 0 _).set 1 _).set 2 _).alloc _,?_,⟨⟨_,_,_,rfl⟩,_,_,_,rfl⟩,(Jk (p:=w.heap.size+1) HBW.out (by omega) _ _ _).alloc (by simp [iQ,jF1];omega) _⟩;exact (HA2.out.iQ J1.out _ _ _).below ((jD7 _ _).alloc (jD8 _) _)
          clear iO YI HI pJ HM HBW;go_wp2;go_roundw;case rel=>exact ⟨f-1,a',q2,n+1,_,_,hq2,rfl,by go_num,by omega,by omega,jo7.out,hc2,hp2,HMF.out⟩
          case measure=>simp [intOf];omega
         ·have e5:(m != 0)=true:=by rw [bne_iff_ne];exact hm
          have HV:Hid (R=none):=by
           show R=_;rcases iO.out with ⟨h,_⟩ | ⟨_,h⟩
           ·exact absurd h hm
           ·rw [<- pJ.out,q0z s q hlt];exact zW f a _ _ (by omega) jv7.out (by rw [<- q0z s q hlt];exact h)
          clear iO pJ HM HBW;go_wp2;exact bodyPost_ret (v:=.tuple #[.agg #[.string ⟨#[]⟩,.slice none 0 0,.slice none 0 0],.int .i64 0,.int .i64 m]) (by simp [results,Tryz.results245,go_sem,r0,r1,r2,jzk]) rfl ⟨_,_,_,_,_,_,_,_,_,rfl,YI.out,.inr ⟨hm,Yr.out.symm.trans HV.out⟩⟩
    ·have g1:decide ((s.size:Int)<=(q:Int))=true:=by simp;omega
     have HV:Hid (R=none):=by
      show R=_;have h1:cu (aN s p)=[]:=by rw [<- Kw.out,q1z s q (by omega)];rfl
      have:=Ji.out;rw [h1,zV _ _ _ (by omega)] at this;exact this.symm
     have r0:=HM.out.res.cell 0 _ rfl;have r1:=HM.out.res.cell 1 _ rfl;have r2:=HM.out.res.cell 2 _ rfl;have f0:=HM.out.res.free 0;have f1:=HM.out.res.free 1;have f2:=HM.out.res.free 2;have FB:=hid (fun x y z=>Jk (p:=w.heap.size) HM.out.aM (jD8 _) x y z);exact jik
end Go.Proofs.YtkfnkeflalcphaaGreatDoor

