/- The walk of SlidesValid. -/
import Derived.Test.YtkfnkeflalcphaaGreatDoorMPlVn
set_option maxHeartbeats 8000000
set_option maxRecDepth 100000
open Go.Lib (hid)
namespace Go.Proofs.YtkfnkeflalcphaaGreatDoor
open Tryz
open Go.RowKit.Below renaming refl->jK7
open Nat renaming le_refl->jK8,zero_le->jL3
open List renaming length_append->jKq,length_cons->jKz,cons_append->jL6
open Go renaming World->jN9
open Go.RowKit renaming Below->jNj
open Go.RowKit
set_option linter.unusedVariables false
set_option linter.unusedSimpArgs false
def eC (t:ByteArray):List Value:=[.int .i64 1,.string t,.string ⟨#[]⟩,.string ⟨#[]⟩,.string ⟨#[]⟩,.slice none 0 0,.slice none 0 0,.slice none 0 0,.slice none 0 0,.slice none 0 0]
theorem Rd.jpj {ok:Nat->Prop} {w:jN9} {k:Nat} {l:List D} {rows:List (List Value)} {b cap:Nat} (hl:l.length<=cap) (hm:cap<=maxLen) (h:aO ok w l rows) (hk:∀ r∈rows,r.length=k) (hok:ok b) (hb:b<w.heap.size) (hc:∀ j u,rows.flatten[j]?=some u->w.cell? ⟨b,j,none⟩=some u):Rd ok w (.sl k l) [.slice (some ⟨b,0,none⟩) l.length cap]:=by exact jn4
theorem jw5 (ok:Nat->Prop) (w:jN9):AtR ok w eAt (.slice none 0 0) (.slice none 0 0):=⟨Rd.aI _ _ _,Rd.aI _ _ _⟩
theorem jw6 (ok:Nat->Prop) (w:jN9) (t:ByteArray):Rd ok w (eTx t).d (eC t):=aj.fC 1 t ⟨#[]⟩ ⟨#[]⟩ ⟨jw5 _ _,Rd.aI _ _ _,Rd.aI _ _ _,Rd.aI _ _ _⟩
open Go.RowKit
def bC (k lv:Int) (id:ByteArray) (vl:Value):List Value:=[.int .i64 k,.int .i64 lv,.string ⟨#[]⟩,.string ⟨#[]⟩,.string ⟨#[]⟩,.string ⟨#[]⟩,.string id,.slice none 0 0,.slice none 0 0,vl,.slice none 0 0]
def sB (k lv:Int) (id:ByteArray) (li:List aj):ah:=.mk k lv ⟨#[]⟩ ⟨#[]⟩ ⟨#[]⟩ ⟨#[]⟩ ⟨id,[],[]⟩ li []
theorem FY {ok:Nat->Prop} {w:jN9} (k lv:Int) (id:ByteArray) {li:List aj} {vl:Value} (h:Rd ok w (aZ li) [vl]):Rd ok w (sB k lv id li).d (bC k lv id vl):=ah.fC k lv ⟨#[]⟩ ⟨#[]⟩ ⟨#[]⟩ ⟨#[]⟩ ⟨⟨Rd.aI _ _ _,Rd.aI _ _ _⟩,h,Rd.aI _ _ _⟩
theorem pE {w:jN9} {p:Nat} {t:ByteArray} (k:CB 66 p (eC t) w) (ok:Nat->Prop) (h:ok p):Rd ok w (aZ [eTx t]) [.slice (some ⟨p,0,none⟩) 1 1]:=
 Rd.jpj (l:=[eTx t].map aj.d) (rows:=[eC t]) (by simp) (by unfold maxLen;decide) (aO.one (jw6 _ _ _)) (by simp [eC]) h k.lt (fun j u hu=>k.cell j u (by simpa using hu))
def H9 (k lv:Int) (id t:ByteArray) (w:jN9) (e:Ending) (w':jN9):Prop:=
 ∃ p,e=.returned (.agg (bC k lv id (.slice (some ⟨p,0,none⟩) 1 1)).toArray)/\w.heap.size<=p/\CB 66 p (eC t) w'/\jNj w.heap.size w w'
theorem jpk (k lv:Int) (id t:ByteArray) (w:jN9):∃ S W1,S=w.heap.size/\W1=(w.alloc (.cells (bC 0 0 ⟨#[]⟩ (.slice none 0 0)).toArray 48)).alloc (.cells (eC t).toArray 66)/\CB 48 S (bC 0 0 ⟨#[]⟩ (.slice none 0 0)) W1 /\ CB 48 S (bC k lv id (.slice (some ⟨S+1,0,none⟩) 1 1)) (sG W1 S 0 (bC k lv id (.slice (some ⟨S+1,0,none⟩) 1 1)))/\H9 k lv id t w (.returned (.agg (bC k lv id (.slice (some ⟨S+1,0,none⟩) 1 1)).toArray)) (sG W1 S 0 (bC k lv id (.slice (some ⟨S+1,0,none⟩) 1 1))):=by
 obtain ⟨S,hS⟩:∃ S,S=w.heap.size:=⟨_,rfl⟩;obtain ⟨W1,hW⟩:∃ W1,W1=(w.alloc (.cells (bC 0 0 ⟨#[]⟩ (.slice none 0 0)).toArray 48)).alloc (.cells (eC t).toArray 66):=⟨_,rfl⟩;have z:(w.alloc (.cells (bC 0 0 ⟨#[]⟩ (.slice none 0 0)).toArray 48)).heap.size=S+1:=by rw [World.size_alloc,hS]
 have k0:CB 48 S (bC 0 0 ⟨#[]⟩ (.slice none 0 0)) W1:=by rw [hW,hS];exact (CB.new _ _ w).below ((jK7 _ _).alloc (jK8 _) _)
 have k1:CB 66 (S+1) (eC t) W1:=by rw [hW,<- z];exact CB.new _ _ _
 have b1:jNj w.heap.size w W1:=by rw [hW];exact ((jK7 _ _).alloc (jK8 _) _).alloc (by rw [z];omega) _
 refine ⟨S,W1,hS,hW,k0,?_,S+1,rfl,by omega,(iR S _ _ _ _ (by omega)).trans k1,?_⟩
 ·exact dS (dS (dS (dS (dS (dS (dS (dS (dS (dS (dS k0 0 _) 1 _) 2 _) 3 _) 4 _) 5 _) 6 _) 7 _) 8 _) 9 _) 10 _
 ·have hs:=Nat.le_of_eq hS.symm;exact ((((((((((b1.setCell (p:=⟨S,0,none⟩) hs _).setCell (p:=⟨S,1,none⟩) hs _).setCell (p:=⟨S,2,none⟩) hs _).setCell (p:=⟨S,3,none⟩) hs _).setCell (p:=⟨S,4,none⟩) hs _).setCell (p:=⟨S,5,none⟩) hs _).setCell (p:=⟨S,6,none⟩) hs _).setCell (p:=⟨S,7,none⟩) hs _).setCell (p:=⟨S,8,none⟩) hs _).setCell (p:=⟨S,9,none⟩) hs _).setCell (p:=⟨S,10,none⟩) hs _
theorem jpq{P Q:Prop}(q:Q)(h:Nonempty Q->P:=by
 intro qQ;have HP:=hid hP;have K1:=hid k1;have HZ:=hid z0;have r0:=k0.cell 0 _ rfl;have r1:=k0.cell 1 _ rfl;have r2:=k0.cell 2 _ rfl;have r3:=k0.cell 3 _ rfl;have r4:=k0.cell 4 _ rfl;have r5:=k0.cell 5 _ rfl;have r6:=k0.cell 6 _ rfl;have r7:=k0.cell 7 _ rfl;have r8:=k0.cell 8 _ rfl;have r9:=k0.cell 9 _ rfl;have YH:=k0.cell 10 _ rfl;have g0:=Aj k0 0;have g1:=Aj k0 1;have g2:=Aj k0 2;have g3:=Aj k0 3;have g4:=Aj k0 4;have g5:=Aj k0 5;have g6:=Aj k0 6;have g7:=Aj k0 7;have g8:=Aj k0 8;have g9:=Aj k0 9;have g10:=Aj k0 10;revert HP K1 HZ r0 r1 r2 r3 r4 r5 r6 r7 r8 r9 YH g0 g1 g2 g3 g4 g5 g6 g7 g8 g9 g10;exact qQ.elim fun x=>x):P:=h ⟨q⟩
theorem jpx{P Q:Prop}(q:Q)(h:Nonempty Q->P:=by
 intro qQ;have r0:=K1.out.cell 0 _ rfl;have r1:=K1.out.cell 1 _ rfl;have r2:=K1.out.cell 2 _ rfl;have r3:=K1.out.cell 3 _ rfl;have r4:=K1.out.cell 4 _ rfl;have r5:=K1.out.cell 5 _ rfl;have r6:=K1.out.cell 6 _ rfl;have r7:=K1.out.cell 7 _ rfl;have r8:=K1.out.cell 8 _ rfl;have r9:=K1.out.cell 9 _ rfl;have YH:=K1.out.cell 10 _ rfl;revert r0 r1 r2 r3 r4 r5 r6 r7 r8 r9 YH;exact qQ.elim fun x=>x):P:=h ⟨q⟩
theorem YI (lv:Int) (id:ByteArray) (w:jN9):Calls prog 28 #[.int .i64 lv,.string id] w (H9 2 lv id ⟨#[84]⟩ w):=by
 obtain ⟨S,W1,hS,hW,k0,k1,hP⟩:=jpk 2 lv id ⟨#[84]⟩ w;obtain ⟨w9,dB⟩:∃ w9,w9=sG W1 S 0 (bC 2 lv id (.slice (some ⟨S+1,0,none⟩) 1 1)):=⟨_,rfl⟩;obtain ⟨w0,hw0⟩:∃ w0,w0=w.alloc (.cells (bC 0 0 ⟨#[]⟩ (.slice none 0 0)).toArray 48):=⟨_,rfl⟩;have z0:w0.heap.size=S+1:=by rw [hw0,World.size_alloc,hS]
 rw [<- dB] at k1 hP;rw [<- hw0] at hW;refine jpq ?_;intro HP K1 HZ r0 r1 r2 r3 r4 r5 r6 r7 r8 r9 YH g0 g1 g2 g3 g4 g5 g6 g7 g8 g9 g10;simp only [bC,sG] at dB;simp only [eC] at hW;subst hW;simp only [bC] at hw0;clear hP k0 k1 z0;go_enter func28,ntmps28;go_upto_region 1 with (fail)
 rw [<- hw0,<- hS];clear hw0 hS;go_wp2;simp only [HZ.out];rw [<- dB];clear dB r0 r1 r2 r3 r4 r5 r6 r7 r8 r9 YH;refine jpx ?_;intro r0 r1 r2 r3 r4 r5 r6 r7 r8 r9 YH;exact bodyPost_ret (v:=.agg (bC 2 lv id (.slice (some ⟨S+1,0,none⟩) 1 1)).toArray) (by simp [bC,results,results28,go_sem,r0,r1,r2,r3,r4,r5,r6,r7,r8,r9,YH]) rfl HP.out
theorem OD (w:jN9):Calls prog 55 #[] w (H9 1 0 ⟨#[]⟩ ⟨#[112]⟩ w):=by
 obtain ⟨S,W1,hS,hW,k0,k1,hP⟩:=jpk 1 0 ⟨#[]⟩ ⟨#[112]⟩ w;obtain ⟨w9,dB⟩:∃ w9,w9=sG W1 S 0 (bC 1 0 ⟨#[]⟩ (.slice (some ⟨S+1,0,none⟩) 1 1)):=⟨_,rfl⟩;obtain ⟨w0,hw0⟩:∃ w0,w0=w.alloc (.cells (bC 0 0 ⟨#[]⟩ (.slice none 0 0)).toArray 48):=⟨_,rfl⟩;have z0:w0.heap.size=S+1:=by rw [hw0,World.size_alloc,hS]
 rw [<- dB] at k1 hP;rw [<- hw0] at hW;refine jpq ?_;intro HP K1 HZ r0 r1 r2 r3 r4 r5 r6 r7 r8 r9 YH g0 g1 g2 g3 g4 g5 g6 g7 g8 g9 g10;simp only [bC,sG] at dB;simp only [eC] at hW;subst hW;simp only [bC] at hw0;clear hP k0 k1 z0;go_enter func55,ntmps55;go_upto_region 1 with (fail)
 rw [<- hw0,<- hS];clear hw0 hS;go_wp2;simp only [HZ.out];rw [<- dB];clear dB r0 r1 r2 r3 r4 r5 r6 r7 r8 r9 YH;refine jpx ?_;intro r0 r1 r2 r3 r4 r5 r6 r7 r8 r9 YH;exact bodyPost_ret (v:=.agg (bC 1 0 ⟨#[]⟩ (.slice (some ⟨S+1,0,none⟩) 1 1)).toArray) (by simp [bC,results,results55,go_sem,r0,r1,r2,r3,r4,r5,r6,r7,r8,r9,YH]) rfl HP.out
open Go.RowKit
def sP:ah:=sB 1 0 ⟨#[]⟩ [eTx ⟨#[112]⟩]
def Tj:List ah:=[sB 2 1 ⟨#[]⟩ [eTx ⟨#[84]⟩],sP,sB 5 0 ⟨#[]⟩ [],sP]
def xq:List ah:=[sB 2 2 ⟨#[115]⟩ [eTx ⟨#[84]⟩],sP]
theorem jD0:slP Tj=[⟨[eTx ⟨#[84]⟩],[sP]⟩,⟨[],[sP]⟩]:=by rfl
theorem jpz:G9 [] xq ⟨#[84]⟩ ⟨#[101,110]⟩=0:=by decide +kernel
theorem jD1:spN [] [] ⟨#[84]⟩ ⟨#[101,110]⟩=yH ⟨#[84]⟩ ⟨#[101,110]⟩ []:=by unfold spN;rw [if_pos jzz,<- mR];rfl
theorem jD2:spN [] xq ⟨#[84]⟩ ⟨#[101,110]⟩=yH ⟨#[84]⟩ ⟨#[101,110]⟩ [rQ xq]:=by unfold spN;rw [if_pos jpz,<- mR];rfl
theorem jD3:(dL xq).length=2:=by rfl
theorem jq0:(yH ⟨#[84]⟩ ⟨#[101,110]⟩ [rQ xq]).vals pR=[⟨#[115]⟩]:=by rfl
theorem FZ {k lv:Int} {id t:ByteArray} (hi:(⟨id,[],[]⟩:At).short) (ht:t.size<=50):(sB k lv id [eTx t]).small/\(sB k lv id []).small:=by
 have h0:(⟨#[]⟩:ByteArray).size<=300:=by decide
 have h2:(⟨⟨#[]⟩,[],[]⟩:At).short:=⟨by decide,by decide,by decide,fun _ h=>(by cases h),fun _ h=>(by cases h)⟩;have h3:t.size<=300:=by omega
 have h3':aj.aU [aj.mk 1 t ⟨#[]⟩ ⟨#[]⟩ ⟨⟨#[]⟩,[],[]⟩ [] [] []]<=120:=by simp [aj.aU,aj.sz]
 constructor<;>simp [sB,eTx,eAt,ah.ay,ah.small,h0,show aj.aU []<=120 by decide,h2,h3,h3',hi,aj.ay,aj.small]
theorem Lu:(⟨⟨#[]⟩,[],[]⟩:At).short:=⟨by decide,by decide,by decide,fun _ h=>(by cases h),fun _ h=>(by cases h)⟩
theorem jD4:(⟨⟨#[115]⟩,[],[]⟩:At).short:=⟨by decide,by decide,by decide,fun _ h=>(by cases h),fun _ h=>(by cases h)⟩
theorem YJ:ah.ay xq:=by rw [xq,ah.ay,ah.ay,ah.ay];exact ⟨(FZ jD4 (by decide)).1,(FZ Lu (by decide)).1,trivial⟩
theorem jw7:ah.mh Tj:=by apply ah.mQ;rw [Tj,ah.ay,ah.ay,ah.ay,ah.ay,ah.ay];exact ⟨(FZ Lu (by decide)).1,(FZ Lu (by decide)).1,(FZ (t:=⟨#[]⟩) Lu (by decide)).2,(FZ Lu (by decide)).1,trivial⟩
theorem QG {w:jN9} {q:Nat} {l:List ah} {rows:List (List Value)} (k:CB 48 q rows.flatten w) (hl:l.length=rows.length) (hm:l.length<=1000) (h:aO (·<w.heap.size) w (l.map ah.d) rows) (hk:∀ r∈rows,r.length=11) : Rd (·<w.heap.size) w (iC l) [.slice (some ⟨q,0,none⟩) l.length l.length]:=by
 have h:=Rd.jpj (l:=l.map ah.d) (rows:=rows) (cap:=l.length) (by simp) (by unfold maxLen;omega) h hk k.lt k.lt (fun j u hu=>k.cell j u hu)
 rwa [List.length_map] at h
theorem CO {ok:Nat->Prop} {w:jN9} {x:Nd} {L:List Nd} {vk:Value} (h:Rd ok w (dR [x,aW fD [] L]) [vk]):∃ b off c aL cL,vk=.slice (some ⟨b,off,none⟩) 2 c/\w.cell? ⟨b,off+4+3,none⟩=some (.slice aL L.length cL)/\Rd ok w (dR L) [.slice aL L.length cL]:=by
 obtain ⟨a,c,hv,hs⟩:=Rd.aB h;obtain ⟨b,off,va,vk',rfl,-,-,-,-,-,hc,hN⟩:=vP (l:=[x,aW fD [] L]) hs (k:=1) rfl;obtain ⟨aL,cL,hv2,-⟩:=Rd.aB hN.ks;obtain rfl:vk'=.slice aL L.length cL:=by simpa using hv2
 exact ⟨b,off,c,aL,cL,by simpa using hv,by simpa using hc,hN.ks⟩
theorem jD5 {ok:Nat->Prop} {w:jN9} {n t:ByteArray} {at_:List Pr} {ks:List Nd} {a:Option Addr} {c:Nat} (h:Rd ok w (dR [.mk n t at_ ks]) [.slice a 1 c]):∃ b off aS nS cS aK cK,a=some ⟨b,off,none⟩/\w.cell? ⟨b,off,none⟩=some (.string n)/\w.cell? ⟨b,off+1,none⟩=some (.string t)/\w.cell? ⟨b,off+2,none⟩=some (.slice aS nS cS)/\w.cell? ⟨b,off+3,none⟩=some (.slice aK ks.length cK):=by
 obtain ⟨a',c',hv,hs⟩:=Rd.aB h;obtain ⟨rfl,rfl⟩:a'=a/\c'=c:=by simp at hv;exact ⟨hv.1.symm,hv.2.symm⟩
 obtain ⟨b,off,va,vk',rfl,-,-,c0,c1,c2,c3,hN⟩:=vP (l:=[.mk n t at_ ks]) hs (k:=0) rfl;obtain ⟨aL,cL,hv2,-⟩:=Rd.aB hN.ks;obtain rfl:vk'=.slice aL ks.length cL:=by simpa using hv2
 obtain ⟨aS,nS,cS,rfl⟩:=Rd.au hN.at_
 simp only [Nat.zero_mul,Nat.add_zero] at c0 c1 c2 c3;exact ⟨b,off,aS,nS,cS,aL,cL,rfl,c0,c1,c2,c3⟩
theorem jq1 {ok:Nat->Prop} {w:jN9} {s1 s2:Sl} {v:Value} (h:Rd ok w (.sl 2 ([s1,s2].map Sl.d)) [v]):∃ b off c a0 c0 a1 c1 a2 c2 a3 c3,v=.slice (some ⟨b,off,none⟩) 2 c/\w.cell? ⟨b,off,none⟩=some (.slice a0 s1.ti.length c0)/\w.cell? ⟨b,off+1,none⟩=some (.slice a1 s1.bl.length c1)/\w.cell? ⟨b,off+2,none⟩=some (.slice a2 s2.ti.length c2)/\w.cell? ⟨b,off+2+1,none⟩=some (.slice a3 s2.bl.length c3):=by
 obtain ⟨a,c,hv,hs⟩:=Rd.aB h;obtain ⟨b,off,rfl,-,hb,hcx⟩:=hs.at_ (by simp)
 obtain ⟨r,hr,-,hc⟩:=hcx 0 s1.d rfl;obtain ⟨r',hr',-,hc'⟩:=hcx 1 s2.d rfl;obtain ⟨v1,v2,rfl,g1,g2⟩:=Sl.open_ hr;obtain ⟨v3,v4,rfl,g3,g4⟩:=Sl.open_ hr';obtain ⟨a0,c0,e0,-⟩:=Rd.aB g1;obtain ⟨a1,c1,e1,-⟩:=Rd.aB g2;obtain ⟨a2,c2,e2,-⟩:=Rd.aB g3;obtain ⟨a3,c3,e3,-⟩:=Rd.aB g4;obtain rfl:v1=.slice a0 s1.ti.length c0:=by simpa using e0
 obtain rfl:v2=.slice a1 s1.bl.length c1:=by simpa using e1
 obtain rfl:v3=.slice a2 s2.ti.length c2:=by simpa using e2
 obtain rfl:v4=.slice a3 s2.bl.length c3:=by simpa using e3
 refine ⟨b,off,c,a0,c0,a1,c1,a2,c2,a3,c3,by simpa using hv,?_,?_,?_,?_⟩
 ·have:=hc 0 _ rfl;simpa using this
 ·have:=hc 1 _ rfl;simpa using this
 ·have:=hc' 0 _ rfl;simpa using this
 ·have:=hc' 1 _ rfl;simpa using this
theorem QH (w:jN9) (ht:PT w):Calls prog 19 #[] w (dF (.bool true) w):=by
 have ou:Hid (∀ W,jNj w.heap.size w W->PT W):=fun W hW=>ht.below hW
 clear ht;go_enter func19,ntmps19;go_wp2_with fail
 refine (YI _ _ _).mono ?_;rintro e w1 ⟨p1,rfl,hp1,k1,b1⟩;simp only [bC];have K1:=hid k1;have B1:=hid b1;clear hp1 k1 b1;go_wp2_with fail
 refine (OD _).mono ?_;rintro e w2 ⟨p2,rfl,hp2,k2,b2⟩;simp only [bC];have K1:=hid (K1.out.below b2);have K2:=hid k2;have B2:=hid (q01 B1.out b2);clear hp2 k2 b2;go_wp2_with fail
 refine (OD _).mono ?_;rintro e w3 ⟨p3,rfl,hp3,k3,b3⟩;simp only [bC];have k1:=K1.out.below b3;have k2:=K2.out.below b3;obtain ⟨q4,hq4⟩:∃ q4,q4=w3.heap.size:=⟨_,rfl⟩;obtain ⟨w4,hw4⟩:∃ w4,w4=w3.alloc (.cells [bC 2 1 ⟨#[]⟩ (.slice (some ⟨p1,0,none⟩) 1 1),bC 1 0 ⟨#[]⟩ (.slice (some ⟨p2,0,none⟩) 1 1),bC 5 0 ⟨#[]⟩ (.slice none 0 0),bC 1 0 ⟨#[]⟩ (.slice (some ⟨p3,0,none⟩) 1 1)].flatten.toArray 48):=⟨_,rfl⟩;have b4:jNj w3.heap.size w3 w4:=by rw [hw4];exact (jK7 _ _).alloc (jK8 _) _
 have k4:CB 48 q4 [bC 2 1 ⟨#[]⟩ (.slice (some ⟨p1,0,none⟩) 1 1),bC 1 0 ⟨#[]⟩ (.slice (some ⟨p2,0,none⟩) 1 1),bC 5 0 ⟨#[]⟩ (.slice none 0 0),bC 1 0 ⟨#[]⟩ (.slice (some ⟨p3,0,none⟩) 1 1)].flatten w4:=by rw [hw4,hq4];exact CB.new _ _ _
 have h4:Rd (·<w4.heap.size) w4 (iC Tj) [.slice (some ⟨q4,0,none⟩) 4 4]:=by refine QG (l:=Tj) k4 rfl (by decide) (aO.cons (FY 2 1 ⟨#[]⟩ (pE (k1.below b4) _ (k1.below b4).lt)) (aO.cons (FY 1 0 ⟨#[]⟩ (pE (k2.below b4) _ (k2.below b4).lt)) (aO.cons (FY 5 0 ⟨#[]⟩ (Rd.aI _ _ _)) (aO.one (FY 1 0 ⟨#[]⟩ (pE (k3.below b4) _ (k3.below b4).lt)))))) (by simp [bC])
 have OC:=hid (QF (.slice none 0 0) Tj (.slice (some ⟨q4,0,none⟩) 4 4) w4 ⟨_,_,_,rfl⟩ h4 (by decide +kernel) jw7);have B4:=hid (q01 (q01 B2.out b3) b4);simp only [bC,List.flatten_cons,List.flatten_nil,jL6,List.nil_append,List.append_nil] at hw4;have HQ4:=hid hq4;clear hp3 k3 b3 k1 k2 k4 b4 h4 hq4 K1 K2;go_wp2_with fail
 rw [<- hw4,<- HQ4.out];clear hw4
 (with_reducible refine OC.out.mono ?_)
 rintro e w5 ⟨v5,rfl,h5,b5⟩;rw [jD0] at h5;obtain ⟨a5,c5,e5⟩:=jv h5;obtain rfl:v5=.slice a5 2 c5:=by simpa using e5
 have B5:=hid (q01 B4.out b5);have R5:=hid (h5.weaken (fun _ _=>trivial):Rd (fun _=>True) w5 _ _);have h6:=wK [] [] ⟨#[84]⟩ ⟨#[101,110]⟩ (.slice none 0 0) (.slice none 0 0) w5 (Rd.aI _ _ _) (Rd.aI _ _ _) (by simp) (by simp) (by decide +kernel) (by unfold ah.ay;trivial) (by decide +kernel) (by decide +kernel) (by unfold ah.mh;trivial) (by decide) (by decide) (ou.out _ B5.out);rw [jzz,jD1] at h6;have PC:=hid h6;clear h5 e5 b5 h6 OC B4 HQ4 B2 B1;go_wp2_with fail
 (with_reducible refine PC.out.mono ?_)
 rintro e w6 ⟨va,vk,he,hN,b6⟩;obtain ⟨aA,nA,cA,rfl⟩:=Rd.au hN.at_
 obtain ⟨b6k,o6k,c6k,a6L,c6L,rfl,-,-⟩:=CO hN.ks;have he:e=.returned (.tuple #[.agg #[.string lX,.string ⟨#[]⟩,.slice aA nA cA,.slice (some ⟨b6k,o6k,none⟩) 2 c6k],.int .i64 0]):=he;subst he;have RK6:=hid (show Rd (fun _=>True) w6 (dR [_,aW fD [] []]) [.slice (some ⟨b6k,o6k,none⟩) 2 c6k] from hN.ks.weaken (fun _ _=>trivial));have R6:=hid (R5.out.bP b6);have B6:=hid (q01 B5.out b6);clear hN b6 PC R5 B5;obtain ⟨Bp,yT⟩:∃ Bp,Bp=w6.heap.size:=⟨_,rfl⟩;obtain ⟨w7,hw7⟩:∃ w7,w7=w6.alloc (.cells #[.string lX,.string ⟨#[]⟩,.slice aA nA cA,.slice (some ⟨b6k,o6k,none⟩) 2 c6k] 35):=⟨_,rfl⟩;have k7:CB 35 Bp [.string lX,.string ⟨#[]⟩,.slice aA nA cA,.slice (some ⟨b6k,o6k,none⟩) 2 c6k] w7:=by rw [hw7,yT];exact CB.new _ _ _
 have b7:jNj w6.heap.size w6 w7:=by rw [hw7];exact (jK7 _ _).alloc (jK8 _) _
 have B7:=hid (q01 B6.out b7);have R7:=hid (R6.out.bP b7);have RK7:=hid (RK6.out.bP b7);have KP7:=hid k7;clear k7 b7 R6 RK6 B6;go_upto_region 3 with (fail)
 rw [<- hw7,<- yT];clear hw7 yT;go_wp2_with fail
 refine (YI _ _ _).mono ?_;rintro e w8 ⟨p1,rfl,hp1,k1,b1⟩;simp only [bC];have K1:=hid k1;have B8:=hid (q01 B7.out b1);have R8:=hid (R7.out.bP b1);have RK8:=hid (RK7.out.bP b1);have KP8:=hid (KP7.out.below b1);clear hp1 k1 b1 B7 R7 RK7 KP7;go_wp2_with fail
 refine (OD _).mono ?_;rintro e w9 ⟨p2,rfl,hp2,k2,b2⟩;simp only [bC];have k1:=K1.out.below b2;obtain ⟨q4,hq4⟩:∃ q4,q4=w9.heap.size:=⟨_,rfl⟩;obtain ⟨wA,iD⟩:∃ wA,wA=w9.alloc (.cells [bC 2 2 ⟨#[115]⟩ (.slice (some ⟨p1,0,none⟩) 1 1),bC 1 0 ⟨#[]⟩ (.slice (some ⟨p2,0,none⟩) 1 1)].flatten.toArray 48):=⟨_,rfl⟩;have b4:jNj w9.heap.size w9 wA:=by rw [iD];exact (jK7 _ _).alloc (jK8 _) _
 have k4:CB 48 q4 [bC 2 2 ⟨#[115]⟩ (.slice (some ⟨p1,0,none⟩) 1 1),bC 1 0 ⟨#[]⟩ (.slice (some ⟨p2,0,none⟩) 1 1)].flatten wA:=by rw [iD,hq4];exact CB.new _ _ _
 have h4:Rd (·<wA.heap.size) wA (iC xq) [.slice (some ⟨q4,0,none⟩) 2 2]:=by refine QG (l:=xq) k4 rfl (by decide) (aO.cons (FY 2 2 ⟨#[115]⟩ (pE (k1.below b4) _ (k1.below b4).lt)) (aO.one (FY 1 0 ⟨#[]⟩ (pE (k2.below b4) _ (k2.below b4).lt)))) (by simp [bC])
 have bA:jNj w8.heap.size w8 wA:=q01 b2 b4;have BA:=hid (q01 B8.out bA);have RA:=hid (R8.out.bP bA);have RKA:=hid (RK8.out.bP bA);have KPA:=hid (KP8.out.below bA);have h6:=wK [] xq ⟨#[84]⟩ ⟨#[101,110]⟩ (.slice none 0 0) (.slice (some ⟨q4,0,none⟩) 2 2) wA (Rd.aI _ _ _) h4 (by simp) (by simp) (by decide +kernel) YJ (by decide +kernel) (by decide +kernel) (ah.mQ _ YJ) (by decide) (by decide) (ou.out _ BA.out);rw [jpz,jD2] at h6;have PC:=hid h6;simp only [bC,List.flatten_cons,List.flatten_nil,jL6,List.nil_append,List.append_nil] at iD;have HQ4:=hid hq4;clear hp2 b2 k1 k2 k4 b4 h4 hq4 K1 bA h6 B8 R8 RK8 KP8;go_wp2_with fail
 rw [<- iD,<- HQ4.out];clear iD
 (with_reducible refine PC.out.mono ?_)
 rintro e wB ⟨va,vk,he,hN,b6⟩;obtain ⟨aA2,nA2,cA2,rfl⟩:=Rd.au hN.at_
 obtain ⟨bk,ok,ck,aL,cL,rfl,-,-⟩:=CO hN.ks;have he:e=.returned (.tuple #[.agg #[.string lX,.string ⟨#[]⟩,.slice aA2 nA2 cA2,.slice (some ⟨bk,ok,none⟩) 2 ck],.int .i64 0]):=he;subst he;have RB:=hid (RA.out.bP b6);have RKB:=hid (RKA.out.bP b6);have KPB:=hid (KPA.out.below b6);have BB:=hid (q01 BA.out b6);have HNB:=hid hN;clear hN b6 PC RA RKA KPA BA HQ4;obtain ⟨Bq,hBq⟩:∃ Bq,Bq=wB.heap.size:=⟨_,rfl⟩;obtain ⟨wC,TI⟩:∃ wC,wC=wB.alloc (.cells #[.string lX,.string ⟨#[]⟩,.slice aA2 nA2 cA2,.slice (some ⟨bk,ok,none⟩) 2 ck] 35):=⟨_,rfl⟩;have kC:CB 35 Bq [.string lX,.string ⟨#[]⟩,.slice aA2 nA2 cA2,.slice (some ⟨bk,ok,none⟩) 2 ck] wC:=by rw [TI,hBq];exact CB.new _ _ _
 have bC':jNj wB.heap.size wB wC:=by rw [TI];exact (jK7 _ _).alloc (jK8 _) _
 have rC:=RB.out.bP bC';have rkC:=RKB.out.bP bC';have kpC:=KPB.out.below bC';have hAC:=Rd.bP HNB.out.at_ bC'
 have hKC:=Rd.bP HNB.out.ks bC';have BC:=hid (q01 BB.out bC');clear bC' RB RKB KPB HNB BB;go_upto_region 4 with (fail)
 rw [<- TI,<- hBq];clear TI hBq;obtain ⟨g,o,cg,a0,n0,a1,n1,a2,n2,a3,n3,ev,t0,t1,t2,t3⟩:=jq1 rC;obtain ⟨rfl,rfl⟩:a5=some ⟨g,o,none⟩/\c5=cg:=by simpa using ev
 obtain ⟨bx,ox,cx,aM,cM,ex,u3,-⟩:=CO rkC;obtain ⟨⟨rfl,rfl⟩,rfl⟩:(b6k=bx/\o6k=ox)/\c6k=cx:=by simpa using ex
 obtain ⟨zi,oy,cy,aN,cN,ey,y3,hS⟩:=CO hKC;obtain ⟨⟨rfl,rfl⟩,rfl⟩:(bk=zi/\ok=oy)/\ck=cy:=by simpa using ey
 obtain ⟨bz,oz,aS,nS,cS,aK,cK,rfl,z0,z1,z2,z3⟩:=jD5 (n:=eu) (t:=⟨#[]⟩) (at_:=[⟨gV,AY⟩]) (ks:=dL xq) hS;rw [jD3] at z3
 replace t0:wC.cell? ⟨g,o,none⟩=some (.slice a0 1 n0):=t0
 replace t1:wC.cell? ⟨g,o+1,none⟩=some (.slice a1 1 n1):=t1
 replace t2:wC.cell? ⟨g,o+2,none⟩=some (.slice a2 0 n2):=t2
 replace t3:wC.cell? ⟨g,o+2+1,none⟩=some (.slice a3 1 n3):=t3
 replace u3:wC.cell? ⟨b6k,o6k+4+3,none⟩=some (.slice aM 0 cM):=u3
 replace y3:wC.cell? ⟨bk,ok+4+3,none⟩=some (.slice (some ⟨bz,oz,none⟩) 1 cN):=y3
 have p3:=kpC.cell 3 _ rfl;have q3:=kC.cell 3 _ rfl;go_upto_region 6 with (fail)
 obtain ⟨wD,Rc⟩:∃ wD,wD=wC.alloc (.cells #[.string eu,.string ⟨#[]⟩,.slice aS nS cS,.slice aK 2 cK] 35):=⟨_,rfl⟩;obtain ⟨Bs,hBs⟩:∃ Bs,Bs=wC.heap.size:=⟨_,rfl⟩;have kD:CB 35 Bs [.string eu,.string ⟨#[]⟩,.slice aS nS cS,.slice aK 2 cK] wD:=by rw [Rc,hBs];exact CB.new _ _ _
 have bD:jNj wC.heap.size wC wD:=by rw [Rc];exact (jK7 _ _).alloc (jK8 _) _
 have AC:Hid (Calls prog 56 #[.agg #[.string lX,.string ⟨#[]⟩,.slice aA2 nA2 cA2,.slice (some ⟨bk,ok,none⟩) 2 ck],.string ⟨#[105,100]⟩] wD (tO wD ((yH ⟨#[84]⟩ ⟨#[101,110]⟩ [rQ xq]).vals pR))):=(Dq pR _ (yH ⟨#[84]⟩ ⟨#[101,110]⟩ [rQ xq]) (.slice aA2 nA2 cA2) (.slice (some ⟨bk,ok,none⟩) 2 ck) wD (jK8 _) (by rw [jq0];decide) ⟨Rd.keep (fun b _ h2=>⟨h2,rfl⟩) _ _ (hAC.bP bD),Rd.keep (fun b _ h2=>⟨h2,rfl⟩) _ _ (hKC.bP bD)⟩);have rD:=hid (rC.bP bD);have rkD:=hid (rkC.bP bD);have kpD:=hid (kpC.below bD);have kqD:=hid (kC.below bD);have ksD:=hid kD;have BD:=hid (q01 BC.out bD);have q0:=kqD.out.cell 0 _ rfl;have q1:=kqD.out.cell 1 _ rfl;have q2:=kqD.out.cell 2 _ rfl;have q3':=kqD.out.cell 3 _ rfl;clear hAC hKC bD rC rkC kpC kC kD hS;go_upto_region 7 with (fail)
 rw [<- Rc,<- hBs];clear Rc hBs t0 t1 t2 t3 u3 y3 z0 z1 z2 z3 p3 q3 BC;go_wp2_with fail
 (with_reducible refine AC.out.mono ?_)
 rintro e wE ⟨vE,rfl,hoE,bE⟩;rw [jq0] at hoE;obtain ⟨-,aE,cE,rfl,hcE,hmE,hxE⟩:=Dt.mE hoE;obtain ⟨bs,os,rfl,hcs⟩:∃ b off,aE=some ⟨b,off,none⟩/\wE.cell? ⟨b,off,none⟩=some (.string ⟨#[115]⟩):=by
  rcases hxE with h | ⟨b,off,h,hc⟩
  ·simp at h
  ·exact ⟨b,off,h,hc 0 _ rfl⟩
 obtain ⟨g',o',cg',a0,n0,a1,n1,a2,n2,a3,n3,ev,t0,t1,t2,t3⟩:=jq1 (rD.out.bP bE);obtain ⟨⟨rfl,rfl⟩,rfl⟩:(g=g'/\o=o')/\c5=cg':=by simpa using ev
 obtain ⟨bx,ox,cx,aM,cM,ex,u3,-⟩:=CO (rkD.out.bP bE);obtain ⟨⟨rfl,rfl⟩,rfl⟩:(b6k=bx/\o6k=ox)/\c6k=cx:=by simpa using ex
 replace t0:wE.cell? ⟨g,o,none⟩=some (.slice a0 1 n0):=t0
 replace t1:wE.cell? ⟨g,o+1,none⟩=some (.slice a1 1 n1):=t1
 replace t2:wE.cell? ⟨g,o+2,none⟩=some (.slice a2 0 n2):=t2
 replace t3:wE.cell? ⟨g,o+2+1,none⟩=some (.slice a3 1 n3):=t3
 replace u3:wE.cell? ⟨b6k,o6k+4+3,none⟩=some (.slice aM 0 cM):=u3
 have p3:=(kpD.out.below bE).cell 3 _ rfl;have s0:=(ksD.out.below bE).cell 0 _ rfl;have s3:=(ksD.out.below bE).cell 3 _ rfl;have HF:=hid (q01 BD.out bE);have hq:(eu.toList==[115,101,99,116,105,111,110])=true:=by kernel_rfl
 clear hoE bE hxE AC q0 q1 q2 q3' rD rkD kpD kqD ksD BD;go_wp2;go_ret;exact ⟨rfl,HF.out⟩
open Go.RowKit
open Go.RowKit
theorem Lv (s:ByteArray) (w:jN9) (hs:s.size<=1000000000) : Calls prog 69 #[.string s] w (dF (.bool (cZ s)) w):=by
 have VA:=hid (iF s w hs);have HL:Hid (cZ s=(je s&&wI s)):=rfl;have HN:=hid (CF s);obtain ⟨V,hV⟩:∃ V,V=cZ s:=⟨_,rfl⟩;rw [<- hV] at HL ⊢;obtain ⟨U,hU⟩:∃ U,U=je s:=⟨_,rfl⟩;rw [<- hU] at VA HL;have R0:Hid (Qz s (.int .i64 0)):=⟨0,jL3 _,rfl,fun j hj=>by omega⟩;clear hV hU;go_enter func69,ntmps69;go_wp2
 go_loop [3] (fun i=>Qz s i) (fun i=>s.size-(intOf i).toNat)
 case atStart=>exact R0.out
 case round=>
  clear R0;obtain ⟨k,hk,rfl,hall⟩:=hrel;have HA:=hid hall;clear hall;by_cases hlt:k<s.size
  ·have eb:=jE s k hlt;by_cases hc:bt s k=10
   ·have HE:Hid (V=false):=by
     show V=false;rw [HL.out];have h1:wI s=false:=by
      cases h2:wI s
      ·rfl
      ·exact absurd hc (HN.out.1 h2 k hlt)
     rw [h1,Bool.and_false]
    have hq:(((bt s k:Nat):Int)==10)=true:=by rw [hc];rfl
    rw [<- eb] at hq;clear hc eb;exact Cc
   ·have HC:=hid hc;have hq:(((bt s k:Nat):Int)==10)=false:=by rw [beq_eq_false_iff_ne];omega
    rw [<- eb] at hq;clear hc eb;go_wp2
    go_round
    case rel=>
     refine ⟨k+1,by omega,by go_num,fun j hj=>?_⟩;rcases Nat.lt_or_ge j k with h | h
     ·exact HA.out j h
     ·obtain rfl:j=k:=by omega
      exact HC.out
    case measure=>simp [intOf];omega
  ·have HE:Hid (V=U):=by
    show V=U;rw [HL.out];have h1:wI s=true:=HN.out.2 (fun j hj=>HA.out j (by omega));rw [h1,Bool.and_true]
   go_wp2_with fail
   refine VA.out.mono ?_;rintro e w1 ⟨rfl,b1⟩;have HB:=hid b1;clear b1 VA;exact jy
theorem Tk (me:List Pr) (l:List ah) (title lang:ByteArray) (vm vb:Value) (w:jN9) (hm:Rd (·<w.heap.size) w (dx me) [vm]) (hb:Rd (·<w.heap.size) w (iC l) [vb]) (hme:me.length<=1000) (gU:∀ p∈me,p.key.size<=1000/\p.val.size<=1000) (hall:ah.bU l<=32768) (hsm:ah.ay l) (hsz:ah.aU l<=900000) (hil:(ah.aJ l).length<=1000) (hti:title.size<=300) (hla:lang.size<=300) : Calls prog 27 #[.agg #[vm,vb],.string title,.string lang] w (dF (.int .i64 (G9 me l title lang:Nat)) w):=by
 obtain ⟨am,cm,Y5,-⟩:=Rd.aB hm;obtain rfl:vm=.slice am me.length cm:=by simpa using Y5
 obtain ⟨ab,nb,cb,rfl⟩:=Rd.au hb;clear Y5;obtain ⟨S,hS⟩:∃ S,S=w.heap.size:=⟨_,rfl⟩;obtain ⟨W0,hW0⟩:∃ W0,W0=w.alloc (.cells #[.slice am me.length cm,.slice ab nb cb] 26):=⟨_,rfl⟩;have k0:CB 26 S [.slice am me.length cm,.slice ab nb cb] W0:=by rw [hW0,hS];exact CB.new _ _ w
 have b0:jNj w.heap.size w W0:=by rw [hW0];exact (jK7 _ _).alloc (jK8 _) _
 have CK:=hid (Oj me l am ab cm nb cb W0 hme gU hall hsm (hm.up b0) (hb.up b0));have hee:G9 me l title lang=if Ei fZ me l≠0 then Ei fZ me l else if cZ title=false then 17 else if dQ lang=false then 6 else if (ah.aJ l).any dG=true then 5 else 0:=rfl
 obtain ⟨EE,LY⟩:∃ EE,EE=G9 me l title lang:=⟨_,rfl⟩;obtain ⟨E0,hE0⟩:∃ E0,E0=Ei fZ me l:=⟨_,rfl⟩;obtain ⟨T,hT⟩:∃ T,T=cZ title:=⟨_,rfl⟩;obtain ⟨G,hG⟩:∃ G,G=dQ lang:=⟨_,rfl⟩;obtain ⟨u,hu⟩:∃ u,u=(ah.aJ l).any dG:=⟨_,rfl⟩;have LC:Hid (∀ W:jN9,Calls prog 69 #[.string title] W (dF (.bool T) W)):=fun W=>by rw [hT];exact Lv title W (by omega)
 have NC:Hid (∀ W:jN9,Calls prog 70 #[.string lang] W (fun e w'=>e=.returned (.bool G)/\W=w')):=fun W=>by rw [hG];exact TS lang W (by omega)
 have IC:Hid (∀ W:jN9,jNj w.heap.size w W->Calls prog 45 #[.slice ab nb cb] W (fun e w'=>∃ v',e=.returned v'/\Rd (·<w'.heap.size) w' (aZ (ah.aJ l)) [v']/\jNj W.heap.size W w')):=fun W hW=>Rx l _ W (by omega) (by omega) (hb.up hW)
 have UC:Hid (∀ (W:jN9) (v:Value),Rd (·<W.heap.size) W (aZ (ah.aJ l)) [v]->Calls prog 44 #[v] W (Mv W u)):=fun W v h=>by
  have:=MB (ah.aJ l) v W h (Ww l hil);rw [Rz,<- hu] at this;exact this
 rw [<- LY,<- hE0,<- hT,<- hG,<- hu] at hee;rw [<- LY];rw [<- hE0] at CK;have LZ:=hid hee;have B0:=hid b0;refine Xa ?_;intro X0 x0 x1;clear hm hb hme gU hall hsm hsz hil hti hla hee LY hE0 hT hG hu k0 b0;go_enter func27,ntmps27;go_upto_region 1 with (fail)
 rw [<- hW0,<- hS];clear hW0 hS;go_wp2_with fail
 (with_reducible refine CK.out.mono ?_)
 rintro e w1 ⟨rfl,b1⟩;have B1:=hid b1;have B1w:=hid (q01 B0.out b1);clear b1 CK x0 x1;by_cases h0:E0=0
 ·have q1:((E0:Int) != 0)=false:=by rw [h0];rfl
  have TN:Hid (EE=if T=false then 17 else if G=false then 6 else if u=true then 5 else 0):=by show _=_;rw [LZ.out,if_neg (by simp [h0])]
  have LT:=hid (LC.out w1);clear h0 LZ;go_wp2_with fail
  (with_reducible refine LT.out.mono ?_)
  rintro e w2 ⟨rfl,b2⟩;have B2:=hid (q01 B1.out b2);have B2w:=hid (q01 B1w.out b2);clear b2 LT;cases T with
  | false=>
   have HF:Hid (dF (.int .i64 (EE:Nat)) w (.returned (.int .i64 17)) w2):=⟨by rw [TN.out];rfl,B2w.out⟩;go_wp2;go_ret;exact HF.out
  | true=>
   have NT:=hid (NC.out w2);go_wp2_with fail
   (with_reducible refine NT.out.mono ?_)
   rintro e w3 ⟨rfl,rfl⟩;clear NT;cases G with
   | false=>
    have HF:Hid (dF (.int .i64 (EE:Nat)) w (.returned (.int .i64 6)) w2):=⟨by rw [TN.out];rfl,B2w.out⟩;go_wp2;go_ret;exact HF.out
   | true=>
    have x1:=X0.out w2 B2.out;have IT:=hid (IC.out w2 B2w.out);go_wp2_with fail
    (with_reducible refine IT.out.mono ?_)
    rintro e w4 ⟨v4,rfl,jw8,b4⟩;have UT:=hid (UC.out w4 v4 jw8);obtain ⟨a4,n4,c4,rfl⟩:=Rd.au jw8;have B4w:=hid (q01 B2w.out b4);clear jw8 b4 IT x1;go_wp2_with fail
    (with_reducible refine UT.out.mono ?_)
    rintro e w5 ⟨rfl,b5⟩;have B5w:=hid (q01 B4w.out b5);clear b5 UT;cases u with
    | false=>
     have HF:Hid (dF (.int .i64 (EE:Nat)) w (.returned (.int .i64 0)) w5):=⟨by rw [TN.out];rfl,B5w.out⟩;go_wp2;go_ret;exact HF.out
    | true=>
     have HF:Hid (dF (.int .i64 (EE:Nat)) w (.returned (.int .i64 5)) w5):=⟨by rw [TN.out];rfl,B5w.out⟩;go_wp2;go_ret;exact HF.out
 ·have q1:((E0:Int) != 0)=true:=by rw [bne_iff_ne];omega
  have HF:Hid (dF (.int .i64 (EE:Nat)) w (.returned (.int .i64 (E0:Int))) w1):=⟨by rw [LZ.out,if_pos h0],B1w.out⟩;clear h0;go_wp2;go_ret;exact HF.out
open Go.RowKit
structure SmB (l:List ah):Prop where
 sm:ah.ay l
 sz:ah.aU l<=120
 il:(ah.aJ l).length<=120
 al:ah.bU l<=120
theorem jw9 {me:List Pr} {l:List ah} (h:YB me l):SmB l:=by have h1:=ah.GJ l;have h2:=h.all;exact ⟨h.blks,by omega,by omega,h2⟩
theorem jd0 (me:List Pr) (l:List ah) (vm vb:Value) (w:jN9) (hm:Rd (·<w.heap.size) w (dx me) [vm]) (hb:Rd (·<w.heap.size) w (iC l) [vb]) (hwm:∀ p∈me,p.wf) (hwl:ah.yh l) : Calls prog 11 #[.agg #[vm,vb]] w fun e w'=>∃ b,e=.returned (.bool b)/\(b=true->YB me l/\SmB l)/\jNj w.heap.size w w':=
 (Ta me l vm vb w hm hb hwm hwl).mono fun e w' ⟨b,h1,h2,h3⟩=>⟨b,h1,fun h=>⟨h2 h,jw9 (h2 h)⟩,h3⟩
def mg:List Pr->Nat
 | []=>0
 | p::l=>p.val.size+1+mg l
mutual
def Nd.tw:Nd->Nat
 | .mk _ t a ks=>1+t.size+mg a+Nd.dV ks
def Nd.dV:List Nd->Nat
 | []=>0
 | x::l=>x.tw+Nd.dV l
end
theorem YK:∀ (a:List Pr),(∀ p∈a,p.val.size<=mg a)/\a.length<=mg a
 | []=>⟨fun _ h=>(by cases h),jK8 _⟩
 | q::a=>by
  obtain ⟨h1,h2⟩:=YK a;rw [mg,jKz];refine ⟨fun p hp=>?_,by omega⟩;rcases List.mem_cons.1 hp with rfl | hp
  ·omega
  ·have:=h1 p hp;omega
theorem Ia:∀ (a b:List Pr),mg (a++b)=mg a+mg b
 | [],b=>by rw [mg];simp
 | p::a,b=>by rw [jL6,mg,mg,Ia a b];omega
theorem jJ:∀ (a b:List Nd),Nd.dV (a++b)=Nd.dV a+Nd.dV b
 | [],b=>by rw [Nd.dV];simp
 | p::a,b=>by rw [jL6,Nd.dV,Nd.dV,jJ a b];omega
theorem yK (x:Nd):Nd.dV [x]=x.tw:=by rw [Nd.dV,Nd.dV];rfl
mutual
theorem Nd.jq2:∀ x:Nd,x.tw<=1000000000->x.tz
 | .mk n t a ks,h=>by
  rw [Nd.tw] at h;rw [Nd.tz];obtain ⟨h1,h2⟩:=YK a;exact ⟨by omega,fun p hp=>by have:=h1 p hp;omega,by omega,Nd.YL ks (by omega)⟩
theorem Nd.YL:∀ l:List Nd,Nd.dV l<=1000000000->Nd.tzL l
 | [],_=>by rw [Nd.tzL];trivial
 | x::l,h=>by
  rw [Nd.dV] at h;rw [Nd.tzL];exact ⟨Nd.jq2 x (by omega),Nd.YL l (by omega)⟩
end
theorem dJ (n:ByteArray) (a:List Pr) (ks:List Nd):(aW n a ks).tw=1+mg a+Nd.dV ks:=by unfold aW;rw [Nd.tw];have:(⟨#[]⟩:ByteArray).size=0:=rfl;omega
theorem jq3 (s:ByteArray):(Jk s).tw=1+s.size:=by unfold Jk;rw [Nd.tw,mg,Nd.dV];omega
theorem vw (s:ByteArray):Nd.dV (bY s)<=1+s.size:=by
 unfold bY;split
 ·rw [Nd.dV];exact jL3 _
 ·rw [yK,jq3];exact jK8 _
theorem jd1 (out:List Nd) (x:Nd):Nd.dV (lY out x)<=Nd.dV out+x.tw:=by
 unfold lY;split
 ·cases hg:out.getLast? with
  | none=>simp only;rw [jJ,yK];exact jK8 _
  | some y=>
   simp only;split
   ·have e:=rP hg
    conv=>rhs;rw [e]
    rw [jJ,jJ,yK,yK];obtain ⟨yn,yt,ya,yk⟩:=y;obtain ⟨xn,xt,xa,xk⟩:=x;rw [Nd.tw,Nd.tw,Nd.tw];show _+(1+(yt++xt).size+mg ya+Nd.dV yk)<=_;rw [ByteArray.size_append];omega
   ·rw [jJ,yK];exact jK8 _
 ·rw [jJ,yK];exact jK8 _
theorem QI:∀ (l out:List Nd),Nd.dV (l.foldl lY out)<=Nd.dV out+Nd.dV l
 | [],out=>by rw [Nd.dV];simp
 | x::l,out=>by
  have h1:=QI l (lY out x);have h2:=jd1 out x;rw [List.foldl_cons,Nd.dV];omega
theorem F4 (l:List Nd):Nd.dV (iX l)<=Nd.dV l:=by have h:=QI l [];rw [Nd.dV] at h;unfold iX;omega
theorem zo (k v:ByteArray):mg (jm k v)<=v.size+1:=by
 unfold jm;split
 ·rw [mg];omega
 ·rw [mg,mg];exact jK8 _
theorem YM (M:Nat):∀ (l:List ByteArray),(∀ c∈l,c.size<=M)->(C9 l).size<=l.length*(M+1)
 | [],_=>by unfold C9;exact jL3 _
 | [x],h=>by unfold C9;have:=h x (by simp);simp;omega
 | x::y::l,h=>by
  have h1:=YM M (y::l) (fun c hc=>h c (List.mem_cons_of_mem _ hc));have h2:=h x (by simp);have h3:TA.size=1:=rfl;rw [C9,ByteArray.size_append,ByteArray.size_append,jKz,Nat.succ_mul];omega
theorem zu (a:At) (more:List ByteArray) (h:a.short) (hm:more.length<=1) (hs:∀ c∈more,c.size<=600):mg (ko a more)<=25300:=by
 unfold ko MK;have h1:=zo pR a.id;have h2:=YM 600 (more++a.cls) (fun c hc=>by
  rcases List.mem_append.1 hc with hc | hc
  ·exact hs c hc
  ·exact h.2.2.2.1 c hc)
 have h3:=h.1;have h4:=h.2.2.1;have h5:(more++a.cls).length<=41:=by rw [jKq];omega
 have h6:(more++a.cls).length*(600+1)<=41*601:=Nat.mul_le_mul_right _ h5;rw [Ia];split
 ·rw [mg];omega
 ·rw [mg,mg];dsimp only;omega
mutual
theorem aj.tw:∀ x:aj,x.small->x.nd.tw<=30000*x.sz
 | .mk k t d ti a ar ci ks,hsm=>by
  unfold aj.small at hsm;obtain ⟨s1,s2,s3,s4,-,-,-,-,s5⟩:=hsm;have h:=aj.twR ks s5;have hj:=Nat.le_trans (F4 (aj.Da ks)) h;have b1:=zo q32 ti;have b2:=zu a [] s4 (by simp) (by simp);have b3:(mJ ks).size<=300*aj.aU ks:=by have:=aj.pU ks s5;show (aj.aR ks).toArray.size<=_;simpa using this
  have b4:=vw t;have b5:=vw d;have b6:(ru++t).size<=400:=by rw [ByteArray.size_append];have:ru.size=6:=rfl;omega
  have b7:qM.size<=10:=by decide
  have b8:lU.size<=10:=by decide
  have b9:TA.size<=10:=by decide
  have b0:Nd.dV []=0:=by rw [Nd.dV]
  have bp:mg []=0:=rfl;rw [aj.nd,aj.sz];have I:∀ (c:Prop) [Decidable c] (a b:Nd),a.tw<=30000*(1+aj.aU ks)->b.tw<=30000*(1+aj.aU ks)->(if c then a else b).tw<=30000*(1+aj.aU ks):=fun c _ a b h1 h2=>by
   by_cases hc:c
   ·rw [if_pos hc];exact h1
   ·rw [if_neg hc];exact h2
  repeat' (with_reducible refine I _ _ _ ?_ ?_)
  all_goals first
   | (rw [jq3];omega)
   | (rw [dJ];(try simp only [jL6,Ia,mg]);omega)
theorem aj.twR:∀ l:List aj,aj.ay l->Nd.dV (aj.Da l)<=30000*aj.aU l
 | [],_=>by rw [aj.Da,Nd.dV];exact jL3 _
 | x::l,h=>by
  unfold aj.ay at h;have h1:=aj.tw x h.1;have h2:=aj.twR l h.2;rw [aj.Da,Nd.dV,aj.aU];omega
end
theorem YN (l:List aj) (h:aj.ay l):Nd.dV (kP l)<=30000*aj.aU l:=by unfold kP;exact Nat.le_trans (F4 _) (aj.twR l h)
theorem jd2 (n:Nat) (h:n<=999999999):(dU n).size<=9:=by have h:=zT n 8 (by omega);show (Lib.decDigits n).toArray.size<=9;simp;omega
theorem jD6 (c:UInt8):(Ik c).size<=10:=by
 unfold Ik;split
 ·decide
 split
 ·decide
 split
 ·decide
 ·decide
theorem YO {k lv:Int} {i t d ti:ByteArray} {a:At} {li:List aj} {ks l:List ah} (h:ah.ay (.mk k lv i t d ti a li ks::l)):aj.ay li/\ah.ay ks/\ah.ay l/\a.short/\i.size<=300/\t.size<=300:=by rw [ah.ay,ah.small] at h;exact ⟨h.1.2.2.2.2.2.1,h.1.2.2.2.2.2.2.2,h.2,h.1.2.2.2.2.1,h.1.1,h.1.2.1⟩
theorem Lx (name:ByteArray):∀ (cs:List UInt8) (l:List ah),ah.ay l->Nd.dV (bg name cs l)<=30000*((ah.aG l).length+(ah.aJ l).length)
 | [],l,_=>by rw [bg.eq_def,Nd.dV];exact jL3 _
 | c::cs,[],_=>by rw [bg.eq_def,Nd.dV];exact jL3 _
 | c::cs,b::l,hs=>by
  obtain ⟨k,lv,i,t,d,ti,a,li,ks⟩:=b;obtain ⟨s1,s2,s3,-,-,-⟩:=YO hs;have h:=Lx name cs l s3;have h1:(Vy name c (ah.mk k lv i t d ti a li ks)).tw<=12+30000*aj.aU li:=by have g2:=zo DN (Ik c);have g3:=YN li s1;have g4:=jD6 c;show (aW name (jm DN (Ik c)) (kP li)).tw<=_;rw [dJ];omega
  rw [bg,Nd.dV,ah.aG,ah.aJ,ah.each,ah.inls,jKq,jKq,jKq,jKz,aj.eF];omega
theorem YP (name i:ByteArray) (b:ah) (hs:b.small):(lW name i b).tw<=30000*(b.each.length+b.inls.length):=by obtain ⟨k,lv,i',t,d,ti,a,li,ks⟩:=b;rw [ah.small] at hs;have h2:=Lx name i.data.toList ks hs.2.2.2.2.2.2.2;show (aW AJ [] (bg name i.data.toList ks)).tw<=_;rw [dJ,mg,ah.each,ah.inls,jKq,jKz];omega
theorem QJ (name i:ByteArray):∀ (l:List ah),ah.ay l->Nd.dV (l.map (lW name i))<=30000*((ah.aG l).length+(ah.aJ l).length)
 | [],_=>by rw [List.map_nil,Nd.dV];exact jL3 _
 | b::l,hs=>by
  rw [ah.ay] at hs;have h1:=YP name i b hs.1;have h2:=QJ name i l hs.2;rw [List.map_cons,Nd.dV,ah.aG,ah.aJ,jKq,jKq];omega
theorem YQ (i:ByteArray) (l:List ah) (hs:ah.ay l):(En i l).tw<=3+30000*((ah.aG l).length+(ah.aJ l).length):=by
 have b0:Nd.dV []=0:=by rw [Nd.dV]
 have bp:mg []=0:=rfl;cases l with
 | nil=>
  unfold En;rw [dJ,yK,dJ,b0,bp];omega
 | cons h rows=>
  rw [ah.ay] at hs;unfold En;have g1:=YP M4 i h hs.1;have g2:=QJ DU i rows hs.2;rw [dJ,Nd.dV,dJ,yK,ah.aG,ah.aJ,jKq,jKq,bp];have g4:Nd.dV (if rows.isEmpty=true then [] else [aW vY [] (rows.map (lW DU i))])<=1+Nd.dV (rows.map (lW DU i)):=by
   split
   ·rw [b0];exact jL3 _
   ·rw [yK,dJ,bp];omega
  omega
mutual
theorem ah.tw:∀ b:ah,b.small->b.MG->Nd.dV b.yQ<=30000*(b.each.length+b.inls.length)
 | .mk k lv i t d ti a li ks,hs,hk=>by
  rw [ah.small] at hs;rw [ah.MG] at hk;obtain ⟨s1,s2,-,-,s4,s5,-,s7⟩:=hs;have hkk:=hk.2.2.2.2.2.2.2;have hl:=YN li s5;have ht:=YQ i ks s7;have b1:=zo gV (if aV i=true then ⟨#[]⟩ else xE++i);have b1':(if aV i=true then (⟨#[]⟩:ByteArray) else xE++i).size<=400:=by
   split
   ·exact jL3 _
   ·rw [ByteArray.size_append];have:xE.size<=20:=by decide
    omega
  have b2:=zu a [] s4 (by simp) (by simp);have b3:=zu a [qM] s4 (by simp) (by simp;decide);have b4:=zu a [i] s4 (by simp) (by simp;omega);have b5:=vw t;have b0:Nd.dV []=0:=by rw [Nd.dV]
  have bp:mg []=0:=rfl;rw [ah.yQ,ah.each,ah.inls,jKz,jKq,aj.eF];generalize hM:30000*((ah.aG ks).length+1+(aj.aU li+(ah.aJ ks).length))=M;have I:∀ (c:Prop) [Decidable c] (a b:List Nd),(c->Nd.dV a<=M)->(¬ c->Nd.dV b<=M)->Nd.dV (if c then a else b)<=M:=fun c _ a b h1 h2=>by
   by_cases hc:c
   ·rw [if_pos hc];exact h1 hc
   ·rw [if_neg hc];exact h2 hc
  have hq:k≠10->Nd.dV (ah.bG ks)<=30000*((ah.aG ks).length+(ah.aJ ks).length):=fun h10=>ah.jd3 ks s7 (hkk h10)
  refine I _ _ _ (fun _=>?_) (fun _=>I _ _ _ (fun _=>?_) (fun _=>I _ _ _ (fun _=>?_) (fun _=>I _ _ _ (fun _=>?_) (fun _=>I _ _ _ (fun _=>?_) (fun _=>I _ _ _ (fun h6=>?_) (fun _=>I _ _ _ (fun h7=>?_) (fun _=>I _ _ _ (fun h8=>?_) (fun _=>I _ _ _ (fun h9=>?_) (fun _=>I _ _ _ (fun _=>?_) (fun _=>I _ _ _ (fun h13=>?_) (fun _=>?_)))))))))))
  ·rw [yK,dJ,bp];omega
  ·rw [yK,dJ];omega
  ·rw [yK,dJ,yK,dJ,bp];omega
  ·rw [yK,dJ];omega
  ·rw [yK,dJ,bp,b0];omega
  ·have:=hq (by omega);rw [yK,dJ,bp];omega
  ·have:=hq (by omega);rw [yK,dJ,bp];omega
  ·have:=hq (by omega);have h9:=jd2 lv.toNat (by have:=hk.2.1 (.inr h8);omega);have h10:mg (if lv=1 then [] else [⟨sStart,dU lv.toNat⟩])<=10:=by
    split
    ·rw [bp];omega
    ·rw [mg,bp];dsimp only;omega
   rw [yK,dJ];omega
  ·have:=hq (by omega);rw [yK,dJ,bp];omega
  ·rw [yK];omega
  ·have:=hq (by omega);rw [yK,dJ];omega
  ·rw [b0];exact jL3 _
theorem ah.jd3:∀ l:List ah,ah.ay l->ah.lQ l->Nd.dV (ah.bG l)<=30000*((ah.aG l).length+(ah.aJ l).length)
 | [],_,_=>by rw [ah.bG,Nd.dV];exact jL3 _
 | b::l,hs,hk=>by
  rw [ah.ay] at hs;rw [ah.lQ] at hk;have h1:=ah.tw b hs.1 hk.1;have h2:=ah.jd3 l hs.2 hk.2;rw [ah.bG,jJ,ah.aG,ah.aJ,jKq,jKq];omega
end
theorem LA (N:Nat):∀ (m:List ah),(∀ x∈m,x.small/\(x.GQ=14->Nd.dV (ah.bG x.kids)<=N))->Nd.dV (m.flatMap iq)<=m.length*(400+N)
 | [],_=>by rw [List.flatMap_nil,Nd.dV];exact jL3 _
 | x::m,h=>by
  have h1:=LA N m (fun y hy=>h y (List.mem_cons_of_mem _ hy));obtain ⟨hs,h2⟩:=h x (List.mem_cons_self ..);have h3:Nd.dV (iq x)<=400+N:=by
   obtain ⟨k,lv,i,t,d,ti,a,li,ks⟩:=x;rw [ah.small] at hs;show Nd.dV (if k=14 then [aW vM [⟨pR,eX++i⟩,⟨gV,jB⟩] (ah.bG ks)] else [])<=400+N;by_cases hk:k=14
   ·have h2':Nd.dV (ah.bG ks)<=N:=h2 hk;have g1:=hs.1;have g2:eX.size=5:=rfl;have g3:jB.size=4:=rfl;rw [if_pos hk,yK,dJ,mg,mg,mg];dsimp only;rw [ByteArray.size_append];omega
   ·rw [if_neg hk,Nd.dV];exact jL3 _
  rw [List.flatMap_cons,jJ,jKz,Nat.succ_mul];omega
theorem jd4 (cl:ByteArray->Bool) (m:List ah) (h:ah.aQ cl 0 0 m=0) (hu:(ah.bJ m).any dG=false) (hs:ah.ay m) (he:(ah.aG m).length<=120) (hi:(ah.aJ m).length<=120) : Nd.dV (dL m)<=30000*((ah.aG m).length+(ah.aJ m).length)+10+(ah.aG m).length*7200400:=by
 have h1:=ah.jd3 m hs (ja7 cl m h hu);have h2:=LA 7200000 (ah.aG m) (fun x hx=>⟨ah.fQ m hs x hx,fun hk=>by
  have g1:=ah.eiL m x hx;have g2:=ah.fQ m hs x hx;have g3:=ah.jd3 x.kids (by
   obtain ⟨k,lv,i,t,d,ti,a,li,ks⟩:=x;rw [ah.small] at g2;exact g2.2.2.2.2.2.2.2) (ah.wo cl m 0 0 h hu x hx hk)
  omega⟩)
 have g0:mP.size<=8:=by decide
 unfold dL;rw [jJ];have:Nd.dV (if (iK m).isEmpty=true then [] else [aW eu [⟨gV,mP⟩] (iK m)])<=10+Nd.dV (iK m):=by
  split
  ·rw [Nd.dV];exact jL3 _
  ·rw [yK,dJ,mg,mg];dsimp only;omega
 have h3:Nd.dV (iK m)<=(ah.aG m).length*7200400:=h2;omega
theorem YR (title lang:ByteArray) (body:List Nd) (h1:title.size<=300) (h2:lang.size<=300) (h:Nd.dV body<=900000000):(yH title lang body).tw<=1000000000:=by
 have b1:=vw title;have g1:fP.size<=10:=by decide
 have bp:mg []=0:=rfl;unfold yH;rw [dJ,Nd.dV,yK,dJ,dJ,Nd.dV,yK,dJ,dJ,mg,mg,mg,mg,Nd.dV];dsimp only;omega
theorem CQ:∀ (l:List ah),ah.ay l↔∀ b∈l,b.small
 | []=>by unfold ah.ay;simp
 | x::l=>by rw [ah.ay,CQ l];simp
theorem jD7 (s:List ah):(ah.aG (DV s)).length<=(ah.aG s).length/\(ah.aJ (DV s)).length<=(ah.aJ s).length:=by
 unfold DV;cases s with
 | nil=>exact ⟨jK8 _,jK8 _⟩
 | cons x l=>
  simp only;split
  ·rw [ah.aG,ah.aJ,jKq,jKq];omega
  ·exact ⟨jK8 _,jK8 _⟩
theorem QK (cl:ByteArray->Bool):∀ (L:List (List ah)),(∀ s∈L,(ah.aQ cl 0 0 (DV s)=0/\(ah.bJ (DV s)).any dG=false)/\ah.ay (DV s))->(ah.aG L.flatten).length<=120->(ah.aJ L.flatten).length<=120 -> Nd.dV (L.map fun s=>rQ (DV s))<=30000*((ah.aG L.flatten).length+(ah.aJ L.flatten).length)+20*L.length+(ah.aG L.flatten).length*7200400
 | [],_,_,_=>by rw [List.map_nil,Nd.dV];exact jL3 _
 | s::L,h,he,hi=>by
  rw [List.flatten_cons,ah.wW,jKq] at he ⊢;rw [List.flatten_cons,ah.lV,jKq] at hi;rw [ah.lV,jKq];have h1:=QK cl L (fun x hx=>h x (List.mem_cons_of_mem _ hx)) (by omega) (by omega);obtain ⟨⟨h2,h3⟩,h4⟩:=h s (List.mem_cons_self ..);obtain ⟨g1,g2⟩:=jD7 s;have h5:=jd4 cl (DV s) h2 h3 h4 (by omega) (by omega);have g3:AY.size=5:=rfl;have bp:mg []=0:=rfl;have h6:(rQ (DV s)).tw=7+Nd.dV (dL (DV s)):=by unfold rQ;rw [dJ,mg,bp];dsimp only;omega
  have h7:=Nat.mul_le_mul_right 7200400 g1;rw [List.map_cons,Nd.dV,h6,jKz,Nat.add_mul];omega
theorem YS (l:List ah):(qD l).length<=l.length+1:=by rw [PN];have h:=V3 l;have:AX l<=l.length:=List.length_filter_le ..;omega
theorem jwj (cl:ByteArray->Bool) (l:List ah) (title lang:ByteArray) (h1:title.size<=300) (h2:lang.size<=300) (h:ah.aQ cl 0 0 l=0) (hu:(ah.bJ l).any dG=false) (hs:ah.ay l) (hl:l.length<=120) (he:(ah.aG l).length<=120) (hi:(ah.aJ l).length<=120):(yH title lang (ES l)).tz:=by
 have hf:=pV l.length l (jK8 _);have hsm:∀ s∈qD l,ah.ay (DV s):=fun s hs'=>(CQ _).2 fun b hb=>(CQ l).1 hs b (by rw [<- hf];exact List.mem_flatten.2 ⟨s,hs',Br s b hb⟩)
 have h3:=QK cl (qD l) (fun s hs'=>⟨Nf cl l h hu s hs',hsm s hs'⟩) (by rw [hf];exact he) (by rw [hf];exact hi);rw [hf] at h3;have h4:=YS l;refine Nd.jq2 _ (YR title lang _ h1 h2 (Nat.le_trans h3 ?_));have:=Nat.mul_le_mul_right 7200400 he;omega
open Go.RowKit
theorem jd5 {ok:Nat->Prop} {w:jN9} {x:Nd} {L:List Nd} {vk:Value} (h:Rd ok w (dR [x,aW fD [] L]) [vk]):∃ b off c aL cL,vk=.slice (some ⟨b,off,none⟩) 2 c/\b<w.heap.size/\w.cell? ⟨b,off+4+3,none⟩=some (.slice aL L.length cL)/\2<=c/\c<=maxLen:=by
 obtain ⟨a,c,hv,hs⟩:=Rd.aB h;have hle:=hs.le;have hmx:=hs.max;obtain ⟨b,off,va,vk',rfl,-,hb,-,-,-,hc,hN⟩:=vP (l:=[x,aW fD [] L]) hs (k:=1) rfl;obtain ⟨aL,cL,hv2,-⟩:=Rd.aB hN.ks;obtain rfl:vk'=.slice aL L.length cL:=by simpa using hv2
 exact ⟨b,off,c,aL,cL,by simpa using hv,hb,by simpa using hc,by simpa using hle,hmx⟩
theorem CU{P Q:Prop}(q:Q)(h:Nonempty Q->P:=by
 intro qQ;go_simp;refine hK.out _ _ (fun _ _=>hH) (fun hH2=>?_);clear hH2;exact qQ.elim fun x=>x):P:=h ⟨q⟩
theorem ZR (me:List Pr) (l:List ah) (vm vb:Value) (w:jN9) (hm:Rd (·<w.heap.size) w (dx me) [vm]) (hb:Rd (·<w.heap.size) w (iC l) [vb]) (hwm:∀ p∈me,p.wf) (hwl:ah.yh l) (hml:me.length<=reachBytes) (hll:l.length<=reachBytes) (ht:PT w) : Calls prog 8 #[.agg #[vm,vb]] w (dF (.bool true) w):=by
 obtain ⟨am,nm,cm,rfl⟩:=Rd.au hm;obtain ⟨ab,nb,cb,rfl⟩:=Rd.au hb;obtain ⟨S,hS⟩:∃ S,S=w.heap.size:=⟨_,rfl⟩;obtain ⟨W0,hW0⟩:∃ W0,W0=w.alloc (.cells #[.slice am nm cm,.slice ab nb cb] 26):=⟨_,rfl⟩;have k0:CB 26 S [.slice am nm cm,.slice ab nb cb] W0:=by rw [hW0,hS];exact CB.new _ _ w
 have b0:jNj w.heap.size w W0:=by rw [hW0];exact (jK7 _ _).alloc (jK8 _) _
 have SM:=hid (jd0 me l _ _ W0 (hm.up b0) (hb.up b0) hwm hwl);have HM:=hid hm;have HB:=hid hb;have ou:Hid (∀ W,jNj w.heap.size w W->PT W):=fun W hW=>ht.below hW
 have B0:=hid b0;have X0:Hid (∀ W:jN9,jNj W0.heap.size W0 W->W.cell? ⟨S,0,none⟩=some (.slice am nm cm)/\W.cell? ⟨S,1,none⟩=some (.slice ab nb cb)):=fun W hW=>⟨(k0.below hW).cell 0 _ rfl,(k0.below hW).cell 1 _ rfl⟩
 have x0:=k0.cell 0 _ rfl;have x1:=k0.cell 1 _ rfl;clear hm hb hwm hwl hml hll ht k0 b0;go_enter func8,ntmps8;go_upto_region 1 with (fail)
 rw [<- hW0,<- hS];clear hW0 hS;go_wp2_with fail
 (with_reducible refine SM.out.mono ?_)
 rintro e w1 ⟨b,rfl,hsm,b1⟩;have B1:=hid b1;have B1w:=hid (q01 B0.out b1);have AW:=hid (QH w1 (ou.out _ B1w.out));clear x0 x1 b1 SM;cases b with
 | false=>
  clear hsm;go_wp2_with fail
  (with_reducible refine AW.out.mono ?_)
  rintro e w2 ⟨rfl,b2⟩;have HF:=hid (q01 B1w.out b2);clear b2;go_wp2;go_ret;exact ⟨rfl,HF.out⟩
 | true=>
  obtain ⟨hd,hs⟩:=hsm rfl;have gU:∀ p∈me,p.key.size<=1000/\p.val.size<=1000:=fun p hp=>by have:=hd.jH7 p hp;omega
  have hEl:(ah.aG l).length<=120:=by rw [qh];exact hs.sz
  have hll:=ah.dI l;have jI4:=hs.sz;have hbd:=ah.mQ l hs.sm;have SP:=hid (wK me l ⟨#[84]⟩ ⟨#[101,110]⟩ (.slice am nm cm) (.slice ab nb cb) w1 (HM.out.up B1w.out) (HB.out.up B1w.out) (by have:=hd.meta_;omega) gU (by have:=hs.al;omega) hs.sm (by omega) (by have:=hs.il;omega) hbd (by decide) (by decide) (ou.out _ B1w.out));have EC:Hid (∀ W,jNj w.heap.size w W->Calls prog 27 #[.agg #[.slice am nm cm,.slice ab nb cb],.string ⟨#[84]⟩,.string ⟨#[101,110]⟩] W (dF (.int .i64 (G9 me l ⟨#[84]⟩ ⟨#[101,110]⟩:Nat)) W)):=fun W hW=>Tk me l ⟨#[84]⟩ ⟨#[101,110]⟩ _ _ W (HM.out.up hW) (HB.out.up hW) (by have:=hd.meta_;omega) gU (by have:=hs.al;omega) hs.sm (by omega) (by have:=hs.il;omega) (by decide) (by decide)
  obtain ⟨nP,L6⟩:∃ nP,nP=(slR l).length:=⟨_,rfl⟩;have TQ:=hid L6;have OC:Hid (∀ W,jNj w.heap.size w W->Calls prog 21 #[.agg #[.slice am nm cm,.slice ab nb cb]] W (QC W (slP l))):=fun W hW=>QF (.slice am nm cm) l (.slice ab nb cb) W ⟨_,_,_,rfl⟩ (HB.out.up hW) (by omega) hbd
  have EK:Hid (G9 me l ⟨#[84]⟩ ⟨#[101,110]⟩=0->(yH ⟨#[84]⟩ ⟨#[101,110]⟩ (ES l)).vR=0/\(yH ⟨#[84]⟩ ⟨#[101,110]⟩ (ES l)).tz):=fun h=>by
   obtain ⟨h1,h2⟩:=uQ (WV h);have h3:(ah.bJ l).any dG=false:=by rw [ah.iO];exact h2
   exact ⟨Ru ⟨#[84]⟩ ⟨#[101,110]⟩ _ (by decide) (by decide) (DW fZ l h1 h3),jwj fZ l ⟨#[84]⟩ ⟨#[101,110]⟩ (by decide) (by decide) h1 h3 hs.sm (by omega) hEl hs.il⟩
  have AC:Hid (∀ W:jN9,jNj w.heap.size w W->Calls prog 19 #[] W (dF (.bool true) W)):=fun W hW=>QH W (ou.out _ hW)
  have HSL:Hid ((ES l).length=nP):=by show _=_;rw [L6,<- PN];unfold ES;rw [List.length_map]
  have HPP:Hid (((slP l).map Sl.d).length=nP):=by show _=_;rw [L6,List.length_map,VY]
  have jK2:nP<=1000:=by have h:=V3 l;have h2:AX l<=l.length:=List.length_filter_le ..;omega
  obtain ⟨E,hE⟩:∃ E,E=G9 me l ⟨#[84]⟩ ⟨#[101,110]⟩:=⟨_,rfl⟩;obtain ⟨X,hX⟩:∃ X,X=spN me l ⟨#[84]⟩ ⟨#[101,110]⟩:=⟨_,rfl⟩;have HXE:Hid (X=if E=0 then yH ⟨#[84]⟩ ⟨#[101,110]⟩ (ES l) else nG):=by show _=_;rw [hX,hE];rfl
  rw [<- hX,<- hE] at SP;rw [<- hE] at EC EK;obtain ⟨x0,x1⟩:=X0.out w1 B1.out;obtain ⟨xn,xt,xa,xk⟩:=X;clear hsm hd hs gU hX hE AW hEl hll jI4 hbd L6;go_wp2_with fail
  (with_reducible refine SP.out.mono ?_)
  rintro e w2 ⟨va,vk,he,hN,b2⟩;obtain ⟨aA,nA,cA,rfl⟩:=Rd.au hN.at_
  obtain ⟨aK,nK,cK,rfl⟩:=Rd.au hN.ks;have he:e=.returned (.tuple #[.agg #[.string xn,.string xt,.slice aA nA cA,.slice aK nK cK],.int .i64 (E:Int)]):=he;subst he;refine jj6 ?_;intro Bp yT w3 hw3 k3 Y6;have B3:=hid (q01 (q01 B1.out b2) Y6);have B3w:=hid (q01 B0.out B3.out);have N3:=hid (show nC (fun _=>True) w3 xa xk (.slice aA nA cA) (.slice aK nK cK) from ⟨(hN.at_.bP Y6).weaken (fun _ _=>trivial),(hN.ks.bP Y6).weaken (fun _ _=>trivial)⟩);have K3:=hid k3;clear x0 x1 hN b2 Y6 k3 SP;go_upto_region 4 with (fail)
  rw [<- hw3,<- yT];clear hw3 yT;by_cases h0:E=0
  ·have q0:((E:Int) != 0)=false:=by rw [h0];rfl
   have hXf:Nd.mk xn xt xa xk=yH ⟨#[84]⟩ ⟨#[101,110]⟩ (ES l):=by rw [HXE.out,if_pos h0]
   have HE0:=hid h0;have CK:Hid (Calls prog 26 #[.agg #[.string xn,.string xt,.slice aA nA cA,.slice aK nK cK]] w3 (dF (.int .i64 0) w3)):=(Jj _ (Nd.mk xn xt xa xk) (.slice aA nA cA) (.slice aK nK cK) w3 (jK8 _) (by rw [hXf];exact (EK.out h0).1) (by rw [hXf];exact (EK.out h0).2) ⟨Rd.keep (fun b _ h2=>⟨h2,rfl⟩) _ _ N3.out.at_,Rd.keep (fun b _ h2=>⟨h2,rfl⟩) _ _ N3.out.ks⟩);have hxk:xk=[aW jh [] [aW ig [⟨GI,fP⟩] [],aW fH [] (bY ⟨#[84]⟩)],aW fD [] (ES l)]:=by unfold yH aW at hXf;simpa [aW] using (Nd.mk.inj hXf).2.2.2
   have hks:=N3.out.ks;rw [hxk] at hks;obtain ⟨bk,ok,ck,aL,cL,ev,hbk,hcL,hck,hcm⟩:=jd5 hks;obtain ⟨rfl,rfl,rfl⟩:aK=some ⟨bk,ok,none⟩/\nK=2/\cK=ck:=by simpa using ev
   rw [HSL.out] at hcL;unfold maxLen at hcm;have XQ:Hid (∀ W:jN9,jNj w3.heap.size w3 W->W.cell? ⟨Bp,0,none⟩=some (.string xn)/\W.cell? ⟨Bp,1,none⟩=some (.string xt)/\W.cell? ⟨Bp,2,none⟩=some (.slice aA nA cA)/\W.cell? ⟨Bp,3,none⟩=some (.slice (some ⟨bk,ok,none⟩) 2 cK)/\W.cell? ⟨bk,ok+4+3,none⟩=some (.slice aL nP cL)/\W.cell? ⟨S,0,none⟩=some (.slice am nm cm)/\W.cell? ⟨S,1,none⟩=some (.slice ab nb cb)):=fun W hW=>
    ⟨(K3.out.below hW).cell 0 _ rfl,(K3.out.below hW).cell 1 _ rfl,(K3.out.below hW).cell 2 _ rfl,(K3.out.below hW).cell 3 _ rfl,(hW.cell (p:=⟨_,_,none⟩) hbk).trans hcL,X0.out W (q01 B3.out hW)⟩
   obtain ⟨p0,p1,p2,p3,-,-,-⟩:=XQ.out w3 (jK7 _ _);clear h0 hXf hxk hks ev hbk hcL EK;go_wp2_with fail
   (with_reducible refine CK.out.mono ?_)
   rintro e w4 ⟨rfl,b4⟩;have B4:=hid b4;obtain ⟨r0,r1,r2,r3,-,-,-⟩:=XQ.out w4 b4;clear p0 p1 p2 p3 b4 CK;go_upto_region 8 with (fail)
   clear r0 r1 r2 r3;refine q2s 18 (fun w'=>jNj w3.heap.size w3 w') (by kernel_rfl) B4.out.drew ?_;intro hH;refine gP 0 rfl hH (by intro wv hSw;obtain ⟨d0,d1,d2,d3,d4,d5,d6⟩:=XQ.out wv hSw;go_simp;try with_reducible rfl) ?_;refine gP 1 rfl hH (by intro wv hSw;obtain ⟨d0,d1,d2,d3,d4,d5,d6⟩:=XQ.out wv hSw;go_simp;try with_reducible rfl) ?_;refine gP 2 rfl hH (by intro wv hSw;obtain ⟨d0,d1,d2,d3,d4,d5,d6⟩:=XQ.out wv hSw;go_simp;try with_reducible rfl) ?_;refine gP 3 rfl hH (by intro wv hSw;obtain ⟨d0,d1,d2,d3,d4,d5,d6⟩:=XQ.out wv hSw;go_simp;try with_reducible rfl) ?_;refine gP 4 rfl hH (by intro wv hSw;obtain ⟨d0,d1,d2,d3,d4,d5,d6⟩:=XQ.out wv hSw;go_simp;try with_reducible rfl) ?_;refine gP 5 rfl hH (by intro wv hSw;obtain ⟨d0,d1,d2,d3,d4,d5,d6⟩:=XQ.out wv hSw;go_simp;try with_reducible rfl) ?_;refine gP 6 rfl hH (by intro wv hSw;obtain ⟨d0,d1,d2,d3,d4,d5,d6⟩:=XQ.out wv hSw;go_simp;try with_reducible rfl) ?_;obtain ⟨y0,hy0⟩:∃ y0,y0=w4.drew:=⟨_,rfl⟩;rw [<- hy0] at hH;rw [<- hy0];clear hy0;refine fK 7 fun KQ hK=>?_
   go_simp;go_at_call 21
   (with_reducible refine (OC.out _ (q01 B3w.out hH)).mono ?_);rintro e y1 ⟨v1,rfl,h1,b1⟩;obtain ⟨a1,c1,e1⟩:=jv h1;rw [HPP.out] at e1;obtain rfl:v1=.slice a1 nP c1:=(by simpa using e1);clear e1 h1
   have hY:=q01 hH b1;refine hK.out _ _ (fun _ _=>hY) (fun hH2=>?_);clear hK KQ hH hH2;have hH:=hY;clear hY b1;refine fK 8 fun KQ hK=>?_
   refine CU ?_;clear hK KQ;refine fK 9 fun KQ hK=>?_
   refine CU ?_;clear hK KQ;refine fK 10 fun KQ hK=>?_
   refine CU ?_;clear hK KQ;refine gP 11 rfl hH (by intro wv hSw;obtain ⟨d0,d1,d2,d3,d4,d5,d6⟩:=XQ.out wv hSw;go_simp;try with_reducible rfl) ?_;refine fK 12 fun KQ hK=>?_
   go_simp;go_at_call 27
   (with_reducible refine (EC.out _ (q01 B3w.out hH)).mono ?_);rintro e y2 ⟨rfl,b2⟩;rw [HE0.out]
   have hY:=q01 hH b2;refine hK.out _ _ (fun _ _=>hY) (fun hH2=>?_);clear hK KQ hH hH2;have hH:=hY;clear hY b2;refine fK 13 fun KQ hK=>?_
   refine CU ?_;clear hK KQ;refine fK 14 fun KQ hK=>?_
   refine CU ?_;clear hK KQ;refine fK 15 fun KQ hK=>?_
   refine CU ?_;clear hK KQ;refine fK 16 fun KQ hK=>?_
   go_simp;go_at_call 19
   (with_reducible refine (AC.out _ (q01 B3w.out hH)).mono ?_);rintro e y3 ⟨rfl,b3⟩
   have hY:=q01 hH b3;refine hK.out _ _ (fun _ _=>hY) (fun hH2=>?_);clear hK KQ hH hH2;have hH:=hY;clear hY b3;refine fK 17 fun KQ hK=>?_
   refine CU ?_;clear hK KQ;refine fK 18 fun KQ hK=>?_
   go_simp;refine qB hK ?_;clear hK KQ;refine yF ?_;have HF:=hid (q01 B3w.out hH);clear hH;go_wp2;go_ret;exact ⟨rfl,HF.out⟩
  ·have q0:((E:Int) != 0)=true:=by rw [bne_iff_ne];omega
   have AW:=hid (AC.out w3 B3w.out);clear h0;go_wp2_with fail
   (with_reducible refine AW.out.mono ?_)
   rintro e w6 ⟨rfl,b6⟩;have HF:=hid (q01 B3w.out b6);clear b6;go_wp2;go_ret;exact ⟨rfl,HF.out⟩
end Go.Proofs.YtkfnkeflalcphaaGreatDoor

