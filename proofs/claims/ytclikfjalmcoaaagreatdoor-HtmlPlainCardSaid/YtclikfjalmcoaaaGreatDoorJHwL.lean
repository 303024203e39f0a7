/- Contracts of html.Line and publisherref34.Line. Plain part: the errors and the nodes of Blocks and Page; the small case of layer 34. What the statements of layer 34 share: text, same, has; Small at a document with one block that has a line only. Plain part: the notes of a well-formed document: what the walks ask of their blocks. The contract of Small at a document with one block that has a line only (for layer 34). -/
import Derived.Test.YtclikfjalmcoaaaGreatDoorJHrK
import Derived.Test.YtclikfjalmcoaaaGreatDoorJRpF
set_option maxHeartbeats 4000000
set_option maxRecDepth 100000
open Go.Lib (hid)
namespace Go.Proofs.YtclikfjalmcoaaaGreatDoor
open Nat renaming le_refl->jc8
open Go.RowKit
set_option linter.unusedVariables false
set_option linter.unusedSimpArgs false
def Mv (l:List ah):Nat:=if tJ l≠0 then tJ l else if kR l=true then 5 else 0
def PG (l:List ah):List Nd:=if Mv l=0 then fA l else []
def bI (w:World) (E:Nat) (L:List Nd) (e:Ending) (w':World):Prop:=
 ∃ rows v,e=.returned (.tuple #[v,.int .i64 (E:Int)])/\aI 43 4 (fun _=>False) w'.heap.size w (L.map Nd.d) rows v w'
theorem bI.nil {w w':World} {E:Nat} {L:List Nd} (hL:L=[]) (h:Below w.heap.size w w'):bI w E L (.returned (.tuple #[.slice none 0 0,.int .i64 (E:Int)])) w':=by subst hL;exact ⟨[],_,rfl,((aI.nil _ _ _ w).below h).top⟩
def PI (l:List ah):au:=.mk 1 0 ⟨#[]⟩ ⟨#[]⟩ ⟨#[]⟩ ⟨#[]⟩ ⟨⟨#[]⟩,[],[]⟩ l []
theorem C9 (l:List ah):au.aV [PI l]=ah.aM l:=by rw [au.aV,au.aV,List.append_nil,PI,au.inls,au.aV,List.append_nil]
theorem zU (l:List ah) (v:Value) (w:World) (hrd:Rd (·<w.heap.size) w (bC l) [v]) (hsm:ah.aC l) (hsz:ah.aU l<=900000) : Calls Tryz.prog 17 #[v] w (bI w (Mv l) (PG l)):=by
 obtain ⟨a,cap,hv,-⟩:=Rd.aD hrd;obtain rfl:v=.slice a l.length cap:=by simpa using hv
 clear hv;have LC:=hid (zV l a cap w hsm hrd);have UU:=hid hrd;have iT:=hid hsm;have hee:Mv l=if tJ l≠0 then tJ l else if kR l=true then 5 else 0:=rfl
 have hnn:PG l=if Mv l=0 then fA l else []:=rfl
 obtain ⟨E0,hE0⟩:∃ E0,E0=tJ l:=⟨_,rfl⟩;obtain ⟨EE,Jp⟩:∃ EE,EE=Mv l:=⟨_,rfl⟩;obtain ⟨NN,Jr⟩:∃ NN,NN=PG l:=⟨_,rfl⟩;rw [<- hE0] at LC hee;rw [<- Jp] at hee hnn;rw [<- Jr] at hnn;rw [<- Jp,<- Jr];have Nq:=hid hee;have Rw:=hid hnn;have HE0:=hid hE0;clear hrd hsm hee hnn hE0 Jp Jr;go_enter Tryz.func17,Tryz.ntmps17;go_wp2_with fail
 (with_reducible refine LC.out.mono ?_)
 rintro e w1 ⟨rfl,b1⟩;have B1:=hid b1;have hz1:=b1.size;clear b1 LC;by_cases h0:E0=0
 ·have q1:((E0:Int) != 0)=false:=by rw [h0];rfl
  have Uz:Hid (tJ l=0):=by show _=_;rw [<- HE0.out,h0]
  have EP:Hid (EE=if kR l=true then 5 else 0):=by show _=_;rw [Nq.out,if_neg (by simp [h0])]
  obtain ⟨wL,Xd⟩:∃ wL,wL=w1.alloc (.cells #[.int .i64 1,.int .i64 0,.string ⟨#[]⟩,.string ⟨#[]⟩,.string ⟨#[]⟩,.string ⟨#[]⟩,.string ⟨#[]⟩,.slice none 0 0,.slice none 0 0,.slice a l.length cap,.slice none 0 0] 30):=⟨_,rfl⟩;have bL:Below w1.heap.size w1 wL:=by rw [Xd];exact (Below.refl _ _).alloc (jc8 _) _
  have rL:Rd (·<wL.heap.size) wL (dB [PI l]) [.slice (some ⟨w1.heap.size,0,none⟩) 1 1]:=by
   rw [Xd];have h:=aI.one (T:=30) (k:=11) (w:=w1) (d:=(PI []).d) (r:=[.int .i64 1,.int .i64 0,.string ⟨#[]⟩,.string ⟨#[]⟩,.string ⟨#[]⟩,.string ⟨#[]⟩,.string ⟨#[]⟩,.slice none 0 0,.slice none 0 0,.slice none 0 0,.slice none 0 0]) rfl (au.fK 1 0 ⟨#[]⟩ ⟨#[]⟩ ⟨#[]⟩ ⟨#[]⟩ (a:=⟨⟨#[]⟩,[],[]⟩) ⟨⟨Rd.ay _ _ _,Rd.ay _ _ _⟩,Rd.ay _ _ _,Rd.ay _ _ _⟩);have hb:Rd (·<(w1.alloc (.cells #[.int .i64 1,.int .i64 0,.string ⟨#[]⟩,.string ⟨#[]⟩,.string ⟨#[]⟩,.string ⟨#[]⟩,.string ⟨#[]⟩,.slice none 0 0,.slice none 0 0,.slice a l.length cap,.slice none 0 0] 30)).heap.size) (w1.alloc (.cells #[.int .i64 1,.int .i64 0,.string ⟨#[]⟩,.string ⟨#[]⟩,.string ⟨#[]⟩,.string ⟨#[]⟩,.string ⟨#[]⟩,.slice none 0 0,.slice none 0 0,.slice a l.length cap,.slice none 0 0] 30)) (PI l).d [.int .i64 1,.int .i64 0,.string ⟨#[]⟩,.string ⟨#[]⟩,.string ⟨#[]⟩,.string ⟨#[]⟩,.string ⟨#[]⟩,.slice none 0 0,.slice none 0 0,.slice a l.length cap,.slice none 0 0]:=
    au.fK 1 0 ⟨#[]⟩ ⟨#[]⟩ ⟨#[]⟩ ⟨#[]⟩ (a:=⟨⟨#[]⟩,[],[]⟩) ⟨⟨Rd.ay _ _ _,Rd.ay _ _ _⟩,(UU.out.up B1.out).up ((Below.refl _ _).alloc (jc8 _) _),Rd.ay _ _ _⟩
   refine Rd.fZ (rows:=[_]) (B:=w1.heap.size) (e:=30) ⟨rfl,.inr ⟨w1.heap.size,1,_,rfl,jc8 _,heap_alloc_new w1 _,by simp,by unfold maxLen;simp,rfl,rfl⟩⟩ (aO.one hb) (by simp) (fun g hg=>?_);have e1:w1.heap.size=g:=by simpa [Value.ownBlock] using hg
   rw [World.size_alloc];omega
  have IC:=rY [PI l] (.slice (some ⟨w1.heap.size,0,none⟩) 1 1) wL rL (by rw [au.qI,au.qI,PI,au.bd,au.qI];exact ⟨⟨by simp,by simp,ah.kS l iT.out,by omega,trivial⟩,trivial⟩)
   (by rw [au.aU,au.aU,PI,au.sz,au.aU];omega) (by rw [C9,ah.gq];omega)
  rw [C9] at IC;have IL:=hid IC;have BL:=hid (aQ B1.out bL);clear IC rL bL h0;go_upto_region 4 with (fail)
  have YE:=hid Xd;clear Xd;go_wp2_with fail
  rw [<- YE.out]
  (with_reducible refine IL.out.mono ?_)
  rintro e w2 ⟨v2,bg,rfl,hown2,GN,pW,b2⟩;have C8:Rd (fun _=>True) w2 (bC (ah.aM l)) [v2]:=Rd.fZ (by rw [List.length_map];exact hown2) GN pW (fun _ _=>trivial);have UC:=uI (ah.aM l) _ v2 w2 C8;have hue:(ah.aM l).any iw=kR l:=rfl;rw [hue] at UC;have UL:=hid UC;have B2:=hid (aQ BL.out b2);clear hown2 GN pW b2 C8 UC IL hue;go_wp2_with fail
  (with_reducible refine UL.out.mono ?_)
  rintro e w3 ⟨rfl,b3⟩;have B3:=hid (aQ B2.out b3);obtain ⟨u,hu⟩:∃ u,u=kR l:=⟨_,rfl⟩;rw [<- hu] at EP;rw [<- hu];have HU:=hid hu;clear b3 UL hu;cases u with
  | true=>
   have HF:Hid (bI w EE NN (.returned (.tuple #[.slice none 0 0,.int .i64 5])) w3):=by
    have h5:EE=5:=by rw [EP.out];rfl
    rw [h5];exact bI.nil (by rw [Rw.out,h5];rfl) B3.out
   go_wp2
   go_ret2
   exact HF.out
  | false=>
   have HC:=hid (iH 900000 l (.slice a l.length cap) w3 hsz (by omega) (UU.out.up B3.out) iT.out (zW l Uz.out HU.out.symm));go_wp2_with fail
   (with_reducible refine HC.out.mono ?_)
   rintro e w4 ⟨dF,v4,rfl,hrow4⟩;have HF:Hid (bI w EE NN (.returned (.tuple #[v4,.int .i64 0])) w4):=by
    have h5:EE=0:=by rw [EP.out];rfl
    have hN:NN=fA l:=by rw [Rw.out,h5];rfl
    rw [h5,hN];exact ⟨dF,v4,rfl,hrow4.qL B3.out.size (aQ B3.out hrow4.aJ)⟩
   clear hrow4 HC;go_wp2
   go_ret2
   exact HF.out
 ·have q1:((E0:Int) != 0)=true:=by rw [bne_iff_ne];omega
  have HF:Hid (bI w EE NN (.returned (.tuple #[.slice none 0 0,.int .i64 (E0:Int)])) w1):=by
   have h5:EE=E0:=by rw [Nq.out,if_pos (by simpa using h0)]
   rw [h5];exact bI.nil (by rw [Rw.out,h5,if_neg h0]) B1.out
  clear h0;go_wp2
  go_ret2
  exact HF.out
def DZ (l:List au):Nat:=if au.aP qU 0 0 l≠0 then au.aP qU 0 0 l else if (au.aV l).any iw=true then 5 else 0
def Po (l:List au):List Nd:=if DZ l=0 then jZ l else []
def Uw (me:List Pr) (l:List au) (title lang:ByteArray):Nat:=
 if iR qU me l≠0 then iR qU me l else if fP title=false then 17 else if iQ lang=false then 6 else if (au.aV l).any iw=true then 5 else 0
def yB:Nd:=.mk ⟨#[]⟩ ⟨#[]⟩ [] []
def Pn (me:List Pr) (l:List au) (title lang:ByteArray):Nd:=if Uw me l title lang=0 then EL title lang (jZ l) else yB
theorem Rn {me:List Pr} {l:List au} (h:iR qU me l=0):au.aP qU 0 0 l=0:=by
 unfold iR at h;split at h
 ·cases h
 ·split at h
  ·rename_i h1;exact absurd h h1
  ·exact h
theorem Da {l:List au} (h:DZ l=0):au.aP qU 0 0 l=0/\(au.aV l).any iw=false:=by
 unfold DZ at h;split at h
 ·rename_i h1;exact absurd h h1
 ·rename_i h1
  split at h
  ·cases h
  ·rename_i h2
   exact ⟨Classical.not_not.1 h1,by simpa using h2⟩
theorem Iq (s:ByteArray):(((At.err ⟨⟨#[]⟩,[],[⟨⟨#[116,105,116,108,101]⟩,s⟩]⟩:Nat):Int)==0)=fP s:=by
 have h1:iQ (⟨#[116,105,116,108,101]⟩:ByteArray)=true:=by decide +kernel
 have h2:sU [] [⟨⟨#[116,105,116,108,101]⟩,s⟩]=if fP s=false then 17 else 0:=by
  rw [sU,h1];have h0:hasB [] (⟨#[116,105,116,108,101]⟩:ByteArray)=false:=rfl;rw [if_neg (by decide),h0];split
  ·rfl
  ·rfl
 cases hs:fP s with
 | true=>
  rw [hs] at h2;have h3:At.err ⟨⟨#[]⟩,[],[⟨⟨#[116,105,116,108,101]⟩,s⟩]⟩=0:=by unfold At.err;rw [h2];rfl
  rw [h3];rfl
 | false=>
  rw [hs] at h2;have h3:At.err ⟨⟨#[]⟩,[],[⟨⟨#[116,105,116,108,101]⟩,s⟩]⟩=17:=by unfold At.err;rw [h2];rfl
  rw [h3];rfl
theorem Nw {l:List au} (h:DZ l=0):au.rT l:=by obtain ⟨h1,h2⟩:=Da h;exact au.mZ qU l 0 0 (by decide) (by decide) h1 (by rw [au.ng];exact h2)
def D7:At:=⟨⟨#[]⟩,[],[]⟩
def U1 (t:ByteArray):ah:=.mk 1 t ⟨#[]⟩ ⟨#[]⟩ D7 [] [] []
def GR:ah:=.mk 2 ⟨#[]⟩ ⟨#[]⟩ ⟨#[]⟩ D7 [] [] []
def zX:ah:=.mk 14 ⟨#[97]⟩ ⟨#[]⟩ ⟨#[]⟩ D7 [] [] []
def eL:List ah:=[U1 ⟨#[97]⟩,GR,U1 ⟨#[98]⟩]
def Db:au:=.mk 5 0 ⟨#[]⟩ ⟨#[]⟩ ⟨#[]⟩ ⟨#[]⟩ D7 [] []
def GU:au:=.mk 14 0 ⟨#[120]⟩ ⟨#[]⟩ ⟨#[]⟩ ⟨#[]⟩ D7 [] []
def uY:au:=.mk 6 0 ⟨#[]⟩ ⟨#[]⟩ ⟨#[]⟩ ⟨#[]⟩ D7 [] [GU]
theorem YF:Mv eL=0:=by decide +kernel
theorem YG:PG eL=[yx ⟨#[97,32,98]⟩]:=by rfl
theorem YH:DZ [Db]=0:=by decide +kernel
theorem YI:Po [Db]=[aL Ug [] []]:=by rfl
theorem YJ:DZ [uY]=0:=by decide +kernel
theorem YK:Po [uY]=[aL uJ [] [],aL jc [⟨eY,jH⟩] [aL jS [⟨jX,⟨#[110,111,116,101,45,120]⟩⟩,⟨eY,dG⟩] []]]:=by rfl
theorem YL:Uw [] [] ⟨#[84]⟩ ⟨#[101,110]⟩=0:=by decide +kernel
theorem YM:Pn [] [] ⟨#[84]⟩ ⟨#[101,110]⟩=aL PK [⟨ow,⟨#[101,110]⟩⟩] [aL rV [] [aL nR [⟨Ir,j3⟩] [],aL kN [] [yx ⟨#[84]⟩]],aL uQ [] []]:=by rfl
theorem e_r:Mv [zX]=5:=by decide +kernel
open Go.RowKit
def eC (t:ByteArray):List Value:=[.int .i64 1,.string t,.string ⟨#[]⟩,.string ⟨#[]⟩,.string ⟨#[]⟩,.slice none 0 0,.slice none 0 0,.slice none 0 0,.slice none 0 0,.slice none 0 0]
theorem Rx (t:ByteArray) (w:World) : Calls Tryz.prog 46 #[.string t] w fun e w'=>e=.returned (.agg (eC t).toArray)/\Below w.heap.size w w':=by
 obtain ⟨w0,hw0⟩:∃ w0,w0=w.alloc (.cells #[.int .i64 0,.string ⟨#[]⟩,.string ⟨#[]⟩,.string ⟨#[]⟩,.string ⟨#[]⟩,.slice none 0 0,.slice none 0 0,.slice none 0 0,.slice none 0 0,.slice none 0 0] 51):=⟨_,rfl⟩;have b0:Below w.heap.size w w0:=by rw [hw0];exact (Below.refl _ _).alloc (jc8 _) _
 have P0:PB w.heap.size [.int .i64 0,.string ⟨#[]⟩,.string ⟨#[]⟩,.string ⟨#[]⟩,.string ⟨#[]⟩,.slice none 0 0,.slice none 0 0,.slice none 0 0,.slice none 0 0,.slice none 0 0] w0:=by rw [hw0];exact heap_alloc_new w _
 have r0:=P0.cell 0 _ rfl;have r1:=P0.cell 1 _ rfl;have r2:=P0.cell 2 _ rfl;have r3:=P0.cell 3 _ rfl;have r4:=P0.cell 4 _ rfl;have r5:=P0.cell 5 _ rfl;have r6:=P0.cell 6 _ rfl;have r7:=P0.cell 7 _ rfl;have r8:=P0.cell 8 _ rfl;have r9:=P0.cell 9 _ rfl;have g0:=P0.free 0;have g1:=P0.free 1;have g2:=P0.free 2;have g3:=P0.free 3;have g4:=P0.free 4;have g5:=P0.free 5;have g6:=P0.free 6;have g7:=P0.free 7;have g8:=P0.free 8;have g9:=P0.free 9;have FB:=hid (fun u0 u1 u2 u3 u4 u5 u6 u7 u8 u9=>(((((((((b0.setCell (p:=⟨w.heap.size,0,none⟩) (jc8 _) u0).setCell (p:=⟨w.heap.size,1,none⟩) (jc8 _) u1).setCell (p:=⟨w.heap.size,2,none⟩) (jc8 _) u2).setCell (p:=⟨w.heap.size,3,none⟩) (jc8 _) u3).setCell (p:=⟨w.heap.size,4,none⟩) (jc8 _) u4).setCell (p:=⟨w.heap.size,5,none⟩) (jc8 _) u5).setCell (p:=⟨w.heap.size,6,none⟩) (jc8 _) u6).setCell (p:=⟨w.heap.size,7,none⟩) (jc8 _) u7).setCell (p:=⟨w.heap.size,8,none⟩) (jc8 _) u8).setCell (p:=⟨w.heap.size,9,none⟩) (jc8 _) u9);clear P0 b0;go_enter Tryz.func46,Tryz.ntmps46;go_upto_region 1 with (fail)
 rw [<- hw0];clear hw0;go_wp2;exact bodyPost_ret (v:=.agg (eC t).toArray) (by simp [eC,results,Tryz.results46,go_sem,r0,r1,r2,r3,r4,r5,r6,r7,r8,r9]) rfl ⟨rfl,FB.out _ _ _ _ _ _ _ _ _ _⟩
theorem Rd.GV {ok:Nat->Prop} {w:World} {k:Nat} {l:List D} {rows:List (List Value)} {b cap:Nat} (hl:l.length<=cap) (hm:cap<=maxLen) (h:aO ok w l rows) (hk:∀ r∈rows,r.length=k) (hok:ok b) (hb:b<w.heap.size) (hc:∀ j u,rows.flatten[j]?=some u->w.cell? ⟨b,j,none⟩=some u):Rd ok w (.sl k l) [.slice (some ⟨b,0,none⟩) l.length cap]:=by unfold Rd;exact ⟨_,cap,rows,rfl,hl,hm,h,hk,.inr ⟨b,0,rfl,hok,hb,fun j u hu=>by rw [Nat.zero_add];exact hc j u hu⟩⟩
theorem uZ (ok:Nat->Prop) (w:World):AtR ok w D7 (.slice none 0 0) (.slice none 0 0):=⟨Rd.ay _ _ _,Rd.ay _ _ _⟩
theorem KG (ok:Nat->Prop) (w:World) (t:ByteArray):Rd ok w (U1 t).d (eC t):=ah.fK 1 t ⟨#[]⟩ ⟨#[]⟩ ⟨uZ _ _,Rd.ay _ _ _,Rd.ay _ _ _,Rd.ay _ _ _⟩
theorem Ny (ok:Nat->Prop) (w:World):Rd ok w GR.d [.int .i64 2,.string ⟨#[]⟩,.string ⟨#[]⟩,.string ⟨#[]⟩,.string ⟨#[]⟩,.slice none 0 0,.slice none 0 0,.slice none 0 0,.slice none 0 0,.slice none 0 0]:=ah.fK 2 ⟨#[]⟩ ⟨#[]⟩ ⟨#[]⟩ ⟨uZ _ _,Rd.ay _ _ _,Rd.ay _ _ _,Rd.ay _ _ _⟩
theorem Ry (ok:Nat->Prop) (w:World):Rd ok w zX.d [.int .i64 14,.string ⟨#[97]⟩,.string ⟨#[]⟩,.string ⟨#[]⟩,.string ⟨#[]⟩,.slice none 0 0,.slice none 0 0,.slice none 0 0,.slice none 0 0,.slice none 0 0]:=ah.fK 14 ⟨#[97]⟩ ⟨#[]⟩ ⟨#[]⟩ ⟨uZ _ _,Rd.ay _ _ _,Rd.ay _ _ _,Rd.ay _ _ _⟩
theorem j5:D7.short:=⟨by decide,by decide,by decide,fun _ h=>(by cases h),fun _ h=>(by cases h)⟩
theorem yF (t:ByteArray) (h:t.size<=300):(U1 t).small:=by unfold U1 ah.small ah.aC;exact ⟨h,by decide,by decide,j5,by decide,by decide,fun _ h=>(by cases h),fun _ h=>(by cases h),trivial⟩
theorem Dc:GR.small:=by unfold GR ah.small ah.aC;exact ⟨by decide,by decide,by decide,j5,by decide,by decide,fun _ h=>(by cases h),fun _ h=>(by cases h),trivial⟩
theorem ET:zX.small:=by unfold zX ah.small ah.aC;exact ⟨by decide,by decide,by decide,j5,by decide,by decide,fun _ h=>(by cases h),fun _ h=>(by cases h),trivial⟩
theorem KH:ah.aC eL:=by unfold eL ah.aC ah.aC ah.aC ah.aC;exact ⟨yF _ (by decide),Dc,yF _ (by decide),trivial⟩
theorem KI:ah.aC [zX]:=by unfold ah.aC ah.aC;exact ⟨ET,trivial⟩
theorem rZ:au.aC [Db]:=by
 have h1:=j5;have h3:ah.aU []<=120:=by decide +kernel
 have h4:(⟨#[]⟩:ByteArray).size<=300:=by decide
 simp [Db,au.aC,au.small,h1,h3,h4,ah.aC]
theorem pX:au.aC [uY]:=by
 have h1:=j5;have h3:ah.aU []<=120:=by decide +kernel
 have h4:(⟨#[]⟩:ByteArray).size<=300:=by decide
 have h5:(⟨#[120]⟩:ByteArray).size<=300:=by decide
 simp [uY,GU,au.aC,au.small,h1,h3,h4,h5,ah.aC]
def PO (k:Int) (i:ByteArray) (vk:Value):List Value:=[.int .i64 k,.int .i64 0,.string i,.string ⟨#[]⟩,.string ⟨#[]⟩,.string ⟨#[]⟩,.string ⟨#[]⟩,.slice none 0 0,.slice none 0 0,.slice none 0 0,vk]
theorem Rz {ok:Nat->Prop} {w:World} (k:Int) (i:ByteArray) (ks:List au) (vk:Value) (h:Rd ok w (dB ks) [vk]):Rd ok w (au.mk k 0 i ⟨#[]⟩ ⟨#[]⟩ ⟨#[]⟩ D7 [] ks).d (PO k i vk):=au.fK k 0 i ⟨#[]⟩ ⟨#[]⟩ ⟨#[]⟩ ⟨uZ _ _,Rd.ay _ _ _,h⟩
theorem EU (k:Int) (i:ByteArray) (ks:List au) (vk:Value) (w:World) (h:Rd (·<w.heap.size) w (dB ks) [vk]) : Rd (·<(w.alloc (.cells (PO k i vk).toArray 30)).heap.size) (w.alloc (.cells (PO k i vk).toArray 30)) (dB [.mk k 0 i ⟨#[]⟩ ⟨#[]⟩ ⟨#[]⟩ D7 [] ks]) [.slice (some ⟨w.heap.size,0,none⟩) 1 1]:=by have hb:Below w.heap.size w (w.alloc (.cells (PO k i vk).toArray 30)):=(Below.refl _ _).alloc (jc8 _) _;have kk:CB 30 w.heap.size (PO k i vk) (w.alloc (.cells (PO k i vk).toArray 30)):=CB.new _ _ w;exact Rd.GV (l:=[au.mk k 0 i ⟨#[]⟩ ⟨#[]⟩ ⟨#[]⟩ D7 [] ks].map au.d) (rows:=[PO k i vk]) (by simp) (by unfold maxLen;decide) (aO.one (Rz k i ks vk (h.up hb))) (by simp [PO]) kk.lt kk.lt (fun j u hu=>kk.cell j u (by simpa using hu))
mutual
theorem au.Nz (cl:ByteArray->Bool):∀ (b:au) (par:Int) (dp:Nat),b.err cl par dp=0->b.bC.any iw=false->∀ x∈b.each,(∃ d',au.aP cl x.Ta d' x.kids=0)/\(au.dx x.kids).any iw=false/\au.aU x.kids<=b.sz
 | .mk k lv i t d ti a li ks,par,dp,h,hu,x,hx=>by
  obtain ⟨h2,hbf,h3⟩:=jU cl h;rw [au.bC,List.any_append,Bool.or_eq_false_iff] at hu;rw [au.each] at hx;rw [au.sz];rcases List.mem_cons.1 hx with rfl | hx
  ·exact ⟨⟨dp+1,h3⟩,hu.2,by show au.aU ks<=_;omega⟩
  ·obtain ⟨g1,g2,g3⟩:=au.vv cl ks k (dp+1) h3 hu.2 x hx;exact ⟨g1,g2,by omega⟩
theorem au.vv (cl:ByteArray->Bool):∀ (l:List au) (par:Int) (dp:Nat),au.aP cl par dp l=0->(au.dx l).any iw=false->∀ x∈au.aT l,(∃ d',au.aP cl x.Ta d' x.kids=0)/\(au.dx x.kids).any iw=false/\au.aU x.kids<=au.aU l
 | [],_,_,_,_,x,hx=>by rw [au.aT] at hx;cases hx
 | y::l,par,dp,h,hu,x,hx=>by
  rw [au.aP] at h;rw [au.dx,List.any_append,Bool.or_eq_false_iff] at hu;rw [au.aT] at hx;rw [au.aU];by_cases h1:y.err cl par dp≠0
  ·rw [if_pos h1] at h;exact absurd h h1
  ·rw [if_neg h1] at h;rcases List.mem_append.1 hx with hx | hx
   ·obtain ⟨g1,g2,g3⟩:=au.Nz cl y par dp (Classical.not_not.1 h1) hu.1 x hx;exact ⟨g1,g2,by omega⟩
   ·obtain ⟨g1,g2,g3⟩:=au.vv cl l par dp h hu.2 x hx;exact ⟨g1,g2,by omega⟩
end
theorem KE (l:List au) (h:DZ l=0) (hsm:au.aC l) (hz:au.aU l<=900000):au.jT l/\∀ x∈au.aT l,x.Ta=14->au.jT x.kids/\au.aU x.kids<=900000:=by obtain ⟨h1,h2⟩:=Da h;have h3:=Nw h;refine ⟨au.pJ qU l 0 0 h1 h3 hsm hz,fun x hx hk=>?_⟩;obtain ⟨⟨d',g1⟩,g2,g3⟩:=au.vv qU l 0 0 h1 (by rw [au.ng];exact h2) x hx;rw [hk] at g1;have g4:=(om (au.jw l hsm x hx)).1;have g5:=au.mZ qU x.kids 14 d' (by decide) (by decide) g1 g2;exact ⟨au.pJ qU _ 14 d' g1 g5 g4 (by omega),by omega⟩
mutual
theorem KJ:∀ (b:au),b.each.length=b.sz
 | .mk k lv i t d ti a li ks=>by rw [au.each,au.sz,List.length_cons,qV ks];omega
theorem qV:∀ (l:List au),(au.aT l).length=au.aU l
 | []=>by rw [au.aT,au.aU];rfl
 | x::l=>by rw [au.aT,au.aU,List.length_append,KJ x,qV l]
end
theorem ER {x:au} (h:x.small):x.iOf.size<=300:=by obtain ⟨k,lv,i,t,d,ti,a,li,ks⟩:=x;rw [au.small] at h;exact h.1
theorem oC:∀ (l:List au),(l.flatMap gZ).length<=l.length
 | []=>by simp
 | x::l=>by
  have h:=oC l;rw [List.flatMap_cons,List.length_append,List.length_cons];have h2:(gZ x).length<=1:=by obtain ⟨k,lv,i,t,d,ti,a,li,ks⟩:=x;unfold gZ;dsimp only;split<;>simp
  omega
open Go.RowKit
def Iw (v:Value):List Value:=[.int .i64 0,.int .i64 0,.string ⟨#[]⟩,.string ⟨#[]⟩,.string ⟨#[]⟩,.string ⟨#[]⟩,.string ⟨#[]⟩,.slice none 0 0,.slice none 0 0,v,.slice none 0 0]
def yG (l:List ah):au:=.mk 0 0 ⟨#[]⟩ ⟨#[]⟩ ⟨#[]⟩ ⟨#[]⟩ D7 l []
theorem zY (l:List ah) (v:Value) (w:World) (h:Rd (·<w.heap.size) w (bC l) [v]) (hwl:ah.sV l) (hll:l.length<=reachBytes) : Calls Tryz.prog 15 #[.agg #[.slice none 0 0,.slice (some ⟨w.heap.size,0,none⟩) 1 1]] (w.alloc (.cells (Iw v).toArray 30)) fun e w'=>∃ b,e=.returned (.bool b)/\(b=true->ah.aC l/\ah.aU l<=120)/\Below w.heap.size w w':=by
 obtain ⟨w0,hw0⟩:∃ w0,w0=w.alloc (.cells (Iw v).toArray 30):=⟨_,rfl⟩;have b0:Below w.heap.size w w0:=by rw [hw0];exact (Below.refl _ _).alloc (jc8 _) _
 have k:CB 30 w.heap.size (Iw v) w0:=by rw [hw0];exact CB.new _ _ _
 have rd:Rd (·<w0.heap.size) w0 (dB [yG l]) [.slice (some ⟨w.heap.size,0,none⟩) 1 1]:=
  Rd.GV (l:=[yG l].map au.d) (rows:=[Iw v]) (by simp) (by unfold maxLen;decide) (aO.one (au.fK 0 0 ⟨#[]⟩ ⟨#[]⟩ ⟨#[]⟩ ⟨#[]⟩ ⟨uZ _ _,h.up b0,Rd.ay _ _ _⟩)) (by simp [Iw]) k.lt k.lt (fun j u hu=>k.cell j u (by simpa using hu))
 have wf:au.sV [yG l]:=by
  have s0:sj (⟨#[]⟩:ByteArray):=by unfold sj;decide
  have i0:Te 0:=by unfold Te;decide
  unfold au.sV au.sV yG au.wf au.sV;exact ⟨⟨i0,i0,s0,s0,s0,s0,⟨s0,by simp [D7],by simp [D7],by simp [D7],by simp [D7]⟩,hwl,hll,trivial,by simp⟩,trivial⟩
 rw [<- hw0];refine (Iy [] [yG l] _ _ w0 (Rd.ay _ _ _) rd (by simp) wf).mono ?_;rintro e w' ⟨b,he,hb,hbl⟩;refine ⟨b,he,fun ht=>?_,aQ b0 hbl⟩;have hd:=(hb ht).blks;unfold au.aC yG au.small at hd;exact ⟨hd.1.2.2.2.2.2.1,hd.1.2.2.2.2.2.2.1⟩
end Go.Proofs.YtclikfjalmcoaaaGreatDoor

