/- Contract of boxes.Of, where the blocks have their contract. The small case of layer 39, plainly. The small case of layer 39: its documents in memory, what boxes.Of returns of them, and 'text'. The small case of layer 39: the walk of 'text'. The small case of layer 39: the walk. The boxes of a paragraph of words, plainly. -/
import Derived.Test.YtnmldmofggkoeaaGreatDoorKBxD
import Derived.Test.YtnmldmofggkoeaaGreatDoorKChW
set_option maxHeartbeats 8000000
set_option maxRecDepth 100000
open Go.Lib (hid)
namespace Go.Proofs.YtnmldmofggkoeaaGreatDoor
open List renaming setIfInBounds_toArray->YD,set_cons_zero->YE,set_cons_succ->YF
open Go.RowKit.Below renaming refl->YH
open Nat renaming le_refl->YI
open Go.World renaming size_alloc->YU
open Go renaming World->Zu,Value->Zw
open Go.RowKit renaming Below->Zv
open Go.RowKit
set_option linter.unusedVariables false
set_option linter.unusedSimpArgs false
def Qu:ah->Int | .mk k _ _ _ _ _ _ _=>k
def tK (x:ah):Bool:=decide (Qu x=15)||(decide (Qu x=13)||decide (Qu x=14))
def DX (cl:ByteArray->Bool) (W:Int) (me:List Pr) (l:List aj):List Bx × Nat:=
 if dB cl me l≠0 then ([],dB cl me l) else if (aj.aK l).any tK=true then ([],5) else iq W l
def Nu (r:List Bx × Nat) (w:Zu) (e:Ending) (w':Zu):Prop:=
 ∃ v,e=.returned (.tuple #[v,.int .i64 (r.2:Nat)])/\Rd (w.heap.size<=·) w' (.sl 6 (r.1.map Bx.d)) [v]/\Zv w.heap.size w w'
def Ji (l:List ah) (w2:Zu) (vi:Zw) (wr:Zu):Prop:=∃ k:Nat,k<=l.length/\vi=.int .i64 k/\(l.take k).any tK=false/\Zv w2.heap.size w2 wr
theorem yX (W:Int) (l:List aj) (r:List Bx × St) (h:r=aj.fA W ⟨0,[],0,false,0⟩ ⟨⟨#[]⟩,⟨#[]⟩⟩ l):iq W l=if r.2.err≠0 then ([],r.2.err) else if 4096<r.1.length then ([],3) else (r.1,0):=by unfold iq;rw [<- h]
theorem kU (cl:ByteArray->Bool) (W:Int) (me:List Pr) (l:List aj) (am ab:Option Addr) (cm nb cb:Nat) (w:Zu) (hW:1<=W/\W<=1048576) (hme:me.length<=1000) (vY:∀ p∈me,p.key.size<=1000/\p.val.size<=1000) (hall:aj.aY l<=32768) (hsm:aj.bW l) (hm:aj.oL l=true->pE cl) (hbd:aj.ku l) (hsz:aj.aW l<=1000000) (hln:(aj.aK l).length<=1000000) (OM:aj.bg l<=900000) (h1:Rd (·<w.heap.size) w (Eo me) [.slice am me.length cm]) (h2:Rd (·<w.heap.size) w (aX l) [.slice ab nb cb]) (hB:dB cl me l=0->(aj.aK l).any tK=false->∀ wz,Zv w.heap.size w wz->iU wz.heap.size W wz l) (ht:TabAt w) (hml:jY w) : Calls Tryz.prog 11 #[.agg #[.slice am me.length cm,.slice ab nb cb],.int .i64 W] w (Nu (DX cl W me l) w):=by
 obtain ⟨a2,c2,hv2,hs2⟩:=Rd.aD h2;obtain ⟨rfl,rfl,rfl⟩:a2=ab/\nb=l.length/\c2=cb:=by simp at hv2;exact ⟨hv2.1.symm,hv2.2.1,hv2.2.2.symm⟩
 obtain ⟨S,hS⟩:∃ S,S=w.heap.size:=⟨_,rfl⟩;obtain ⟨w1,hw1⟩:∃ w1,w1=w.alloc (.cells #[.slice am me.length cm,.slice a2 l.length c2] 30):=⟨_,rfl⟩;have kd:CB 30 S [.slice am me.length cm,.slice a2 l.length c2] w1:=by rw [hw1,hS];exact CB.new _ _ _
 have b1:Zv w.heap.size w w1:=by rw [hw1];exact (YH _ _).alloc (YI _) _
 have TC:=hid (yJ cl me l am a2 cm l.length c2 w1 hme vY hall hsm hm (h1.up b1) (h2.up b1));have HV:Hid (DX cl W me l=if dB cl me l≠0 then ([],dB cl me l) else if (aj.aK l).any tK=true then ([],5) else iq W l):=rfl;obtain ⟨V,hV⟩:∃ V,V=DX cl W me l:=⟨_,rfl⟩;rw [<- hV] at HV ⊢;obtain ⟨DE,U9⟩:∃ DE,DE=dB cl me l:=⟨_,rfl⟩;rw [<- U9] at HV TC hB;have HB:=hid hB;have KD:=hid kd;have B1:=hid b1;have H2:=hid h2;have HS:=hid hS;have HT:=hid ht;have HM:=hid hml;have nH:=hid (And.intro hbd (And.intro hsz hln));have zQ:=hid OM;obtain ⟨hW1,hW2⟩:=hW;have d0:=kd.cell 0 _ rfl;have d1:=kd.cell 1 _ rfl;have q1:decide (W<1)=false:=by simp;omega
 have q2:decide ((1048576:Int)<W)=false:=by simp;omega
 obtain ⟨nl,hnl⟩:∃ nl,nl=l.length:=⟨_,rfl⟩;obtain ⟨nm,hnm⟩:∃ nm,nm=me.length:=⟨_,rfl⟩;rw [<- hnl] at TC d1 KD H2 hw1 ⊢;rw [<- hnm] at TC d0 KD hw1 ⊢;clear h1 h2 hv2 hs2 hV U9 hB kd b1 ht hml hbd hsz hln OM hme vY hall hsm hm hnl hnm;go_enter Tryz.func11,Tryz.ntmps11;go_upto_region 1 with (fail)
 rw [<- hw1,<- hS];clear hw1 hS;go_wp2_with fail
 (with_reducible refine TC.out.mono ?_)
 rintro e w2 ⟨rfl,b2⟩;have B2:=hid (aM B1.out b2);have Qv:=hid (KD.out.below b2);have x0:=Qv.out.cell 0 _ rfl;have x1:=Qv.out.cell 1 _ rfl;clear b2 TC KD d0 d1;by_cases hd:DE=0;case neg=>
  have q3:((DE:Int)==0)=false:=by simpa using hd
  have HE:Hid (V=([],DE)):=by show _=_;rw [HV.out,if_pos hd]
  clear hd;go_wp2
  go_ret2
  rw [HE.out];exact ⟨_,rfl,Rd.aJ _ _ _,B2.out⟩
 have q3:((DE:Int)==0)=true:=by rw [hd];rfl
 have HD:=hid hd;have IC:=hid (vZ l (.slice a2 nl c2) w2 (H2.out.up B2.out) nH.out.1 nH.out.2.1 nH.out.2.2);clear hd;go_wp2_with fail
 (with_reducible refine IC.out.mono ?_)
 rintro e w3 ⟨v3,Va,rfl,hown3,OP,h10,b3⟩;obtain ⟨n,hn⟩:∃ n,n=(aj.aK l).length:=⟨_,rfl⟩;have hn1:n<=1000000:=by have:=nH.out.2.2;omega
 rw [<- hn] at hown3;obtain ⟨a3,c3,rfl⟩:=lI hown3;have EI:n<=c3/\c3<=maxLen:=by
  rcases hown3.2 with ⟨h1,h2⟩ | ⟨g,cap,cur,h1,_,_,h2,h3,_⟩
  ·simp at h1;omega
  ·simp at h1;exact ⟨by omega,by have:=h1.2;rw [this];exact h3⟩
 have hcap1:=EI.1;have hcap2:=EI.2;unfold maxLen at hcap2;have R0:Hid (Ji (aj.aK l) w3 (.int .i64 0) w3):=⟨0,Nat.zero_le _,rfl,rfl,YH _ _⟩;have HN:=hid hn;have OB:=hid hown3;have HR3:=hid (And.intro OP h10);have B3:=hid (aM B2.out b3);have XG:=hid (Qv.out.below b3);clear hn hown3 OP h10 b3 x0 x1 Qv IC EI;go_wp2
 go_loopw [26] (fun vi wr=>Ji (aj.aK l) w3 vi wr) (fun vi _=>n-(intOf vi).toNat)
 case atStart=>exact R0.out
 case round=>
  clear R0;obtain ⟨k,hk,rfl,hany,hbel⟩:=hrel;have hkn:k<=n:=by have:=HN.out;omega
  by_cases hlt:k<n
  ·obtain ⟨y,hy⟩:∃ y,(aj.aK l)[k]?=some y:=⟨_,List.getElem?_eq_getElem (by have:=HN.out;omega)⟩;obtain ⟨yk,yt,yd,zy,zB,Vb,Vd,xX⟩:=y;have hrow:=own_below OB.out hbel;rw [HN.out] at hrow;obtain ⟨g,cap,ac,nc,cc,ap,np,cp,aa,na,ca,ai,ni,ci,ak,nk,ck,hv3,c0,c1,c2',c3',c4,c5,c6,c7,c8,c9⟩:=G7 hrow HR3.out.1 HR3.out.2 hy;obtain ⟨rfl,rfl⟩:a3=some ⟨g,0,none⟩/\c3=cap:=by simp at hv3;exact ⟨hv3.1,hv3.2⟩
   have hsn:((aj.aK l).take (k+1)).any tK=tK (.mk yk yt yd zy zB Vb Vd xX):=by rw [List.take_add_one,hy,List.any_append,hany];simp
   have FQ:=hid hsn;have KE:=hid hbel;have XH:=hid (List.mem_of_getElem? hy);clear hany hy hrow hsn hbel hv3;rcases (by omega:yk=15\/yk=13\/yk=14\/(yk≠15/\yk≠13/\yk≠14)) with rfl | rfl | rfl | ⟨hy1,hy2,hy3⟩
   case' inr.inr.inr=>
    have f1:=beq_false_of_ne hy1;have f2:=beq_false_of_ne hy2;have f3:=beq_false_of_ne hy3;have hz:tK (.mk yk yt yd zy zB Vb Vd xX)=false:=by show (decide (yk=15)||(decide (yk=13)||decide (yk=14)))=false;simp [hy1,hy2,hy3]
    have HZ:=hid hz;clear hy1 hy2 hy3 hz;go_wp2;go_roundw;case rel=>exact ⟨k+1,by have:=HN.out;omega,by go_num,by rw [FQ.out,HZ.out],KE.out.alloc KE.out.size _⟩
    case measure=>simp [intOf];omega
   all_goals
    have HE:Hid (V=([],5)):=by show _=_;rw [HV.out,if_neg (fun e=>e HD.out),if_pos];exact List.any_eq_true.2 ⟨_,XH.out,rfl⟩
    have HF:=hid (aM B3.out KE.out);go_wp2
    go_ret2
    rw [HE.out];exact ⟨_,rfl,Rd.aJ _ _ _,HF.out.alloc HF.out.size _⟩
  ·have hkl:k=(aj.aK l).length:=by have:=HN.out;omega
   have hkn':k=n:=by omega
   rw [hkl,List.take_length] at hany;have CU:=hid (aM B3.out hbel);have Ve:=hid (XG.out.below hbel);have LV:Hid (V=iq W l):=by show _=_;rw [HV.out,if_neg (fun e=>e HD.out),if_neg (by rw [hany];simp)]
   have x1:=Ve.out.cell 1 _ rfl;obtain ⟨m,hm⟩:∃ m,m=wr.heap.size:=⟨_,rfl⟩;obtain ⟨wm,Ij⟩:∃ wm,wm=wr.alloc (.cells #[.int .i64 W,.int .i64 0,.slice none 0 0,.int .i64 0,.bool false,.int .i64 0] 63):=⟨_,rfl⟩;have km:nQ m W ⟨0,[],0,false,0⟩ (.slice none 0 0) wm:=⟨by rw [Ij,hm];exact CB.new _ _ _,⟨by simp,.inl ⟨rfl,rfl⟩⟩⟩;have bm:Zv wr.heap.size wr wm:=by rw [Ij];exact (YH _ _).alloc (YI _) _
   have hin:lV m W wr ⟨0,[],0,false,0⟩ (.slice none 0 0) ⟨⟨#[]⟩,⟨#[]⟩⟩ (aj.bg l) wm:=⟨by omega,bm,km,⟨hW1,hW2⟩,⟨by show 0+_<=_;have:=zQ.out;omega,by show 0+_<=_;have:=zQ.out;omega,by have:=zQ.out;simp;omega,by have:=zQ.out;simp;omega,by have:=zQ.out;simp;omega⟩,HT.out.below CU.out,HM.out.below CU.out⟩;have BC:=hid ((by rw [hm];exact HB.out HD.out hany wr CU.out:iU m W wr l) (.slice a2 nl c2) (H2.out.up CU.out) _ _ _ wm hin);have HG:=hid (oo W ⟨hW1,hW2⟩ l ⟨0,[],0,false,0⟩ ⟨⟨#[]⟩,⟨#[]⟩⟩);obtain ⟨r,hr⟩:∃ r,r=aj.fA W ⟨0,[],0,false,0⟩ ⟨⟨#[]⟩,⟨#[]⟩⟩ l:=⟨_,rfl⟩;have HE2:=hid (yX W l r hr);rw [<- hr] at BC HG;have Sy:=hid (aM CU.out bm);have y1:=(Ve.out.below bm).cell 1 _ rfl;have XI:=hid hm;clear hkl hany hbel km bm hin hr;go_upto_region 16 with (fail)
   rw [<- Ij,<- hm];clear Ij hm;go_wp2_with fail
   (with_reducible refine BC.out.mono ?_)
   rintro e w5 ⟨v5,qX,lW,rfl,dW,hmk5,-,-,lX⟩;obtain ⟨n5,uQ⟩:∃ n5,n5=(r.1.map Bx.d).length:=⟨_,rfl⟩;obtain ⟨a5,c5,hv5⟩:=lI dW.own;rw [<- uQ] at hv5;subst hv5;have J8:Hid (n5=r.1.length):=hid (by rw [uQ,List.length_map]);have M4:n5<=1000000:=by rw [J8.out];have:=HG.out.len;have:=zQ.out;omega
   have hmw:w.heap.size<=m:=by rw [XI.out];exact CU.out.size
   have F5:Hid (Zv w.heap.size w w5):=Sy.out.trans (lX.below _ Sy.out.size (fun b e=>by
    rcases e with e | e
    ·omega
    ·simp [Value.ownBlock] at e))
   have XJ:Hid (Rd (w.heap.size<=·) w5 (.sl 6 (r.1.map Bx.d)) [.slice a5 n5 c5]):=by
    have h:=dW.2.rd;rw [dW.sz] at h;refine h.weaken (fun b hb=>?_);rcases hb with hb | hb
    ·simp [Value.ownBlock] at hb
    ·exact Nat.le_trans Sy.out.size hb
   have f5:=hmk5.cb.cell 5 _ rfl;have ff:=rX hmk5.cb;clear dW hmk5 lX uQ hmw BC y1 x1;by_cases he:r.2.err=0
   ·have q4:(((r.2.err:Nat):Int)==0)=true:=by rw [he];rfl
    by_cases hcc:4096<n5
    ·have q5:decide ((4096:Int)<(n5:Int))=true:=by simp;omega
     have HE:Hid (V=([],3)):=by show _=_;rw [LV.out,HE2.out,if_neg (fun e=>e he),if_pos (by rw [<- J8.out];exact hcc)]
     clear he hcc;go_wp2
     go_ret2
     rw [HE.out];exact ⟨_,rfl,Rd.aJ _ _ _,F5.out⟩
    ·have q5:decide ((4096:Int)<(n5:Int))=false:=by simp;omega
     have HE:Hid (V=(r.1,0)):=by show _=_;rw [LV.out,HE2.out,if_neg (fun e=>e he),if_neg (by rw [<- J8.out];exact hcc)]
     clear he hcc;go_wp2
     go_ret2
     rw [HE.out];exact ⟨_,rfl,XJ.out,F5.out⟩
   ·have q4:(((r.2.err:Nat):Int)==0)=false:=by simp;omega
    have HE:Hid (V=([],r.2.err)):=by show _=_;rw [LV.out,HE2.out,if_pos he]
    clear he;go_wp2_with fail
    go_quiet (fail)
    go_wp2
    go_ret2
    rw [HE.out];exact ⟨_,rfl,Rd.aJ _ _ _,eY F5.out _⟩
deriving instance DecidableEq for Bx
def iJ (t:ByteArray):ah:=.mk 1 t ⟨#[]⟩ ⟨#[]⟩ ⟨⟨#[]⟩,[],[]⟩ [] [] []
def oK (k lv:Int) (id:ByteArray) (li:List ah) (ks:List aj):aj:=.mk k lv ⟨#[]⟩ ⟨#[]⟩ ⟨#[]⟩ ⟨#[]⟩ ⟨id,[],[]⟩ li ks
def lK (t:ByteArray):aj:=oK 1 0 ⟨#[]⟩ [iJ t] []
def Lj:List aj:=[oK 2 1 ⟨#[97]⟩ [iJ ⟨#[65]⟩] [],lK ⟨#[98]⟩]
def Jj:List aj:=[oK 6 0 ⟨#[]⟩ [] [oK 7 0 ⟨#[]⟩ [] [oK 9 0 ⟨#[]⟩ [] [lK ⟨#[97]⟩]]]]
def Ll:List aj:=[lK ⟨#[109,32,109,32,109]⟩]
def FJ:List Bx:=[⟨⟨#[65]⟩,2,0,true,false,[⟨#[97]⟩]⟩,⟨⟨#[98]⟩,1,1,false,false,[]⟩]
def Mf:List Bx:=[⟨⟨#[62,32,45,32,97]⟩,1,0,false,false,[]⟩]
def Mg:List Bx:=[⟨⟨#[109]⟩,1,0,true,false,[]⟩,⟨⟨#[109]⟩,1,0,true,false,[]⟩,⟨⟨#[109]⟩,1,0,false,false,[]⟩]
theorem OQ:DX (fun _=>true) 1000 [] Lj=(FJ,0):=by decide +kernel
theorem OT:DX (fun _=>true) 1000 [] Jj=(Mf,0):=by decide +kernel
theorem OU:DX (fun _=>true) 85 [] Ll=(Mg,0):=by decide +kernel
theorem OV:iR FJ=0:=by decide +kernel
theorem OX:iR [⟨⟨#[]⟩,0,0,false,false,[]⟩]=9:=by decide +kernel
open Go.RowKit
theorem Rd.zY {ok:Nat->Prop} {w:Zu} {k:Nat} {l:List D} {rows:List (List Zw)} {b cap:Nat} (hl:l.length<=cap) (hm:cap<=maxLen) (h:aG ok w l rows) (hk:∀ r∈rows,r.length=k) (hok:ok b) (hb:b<w.heap.size) (hc:∀ j u,rows.flatten[j]?=some u->w.cell? ⟨b,j,none⟩=some u):Rd ok w (.sl k l) [.slice (some ⟨b,0,none⟩) l.length cap]:=by unfold Rd;exact ⟨_,cap,rows,rfl,hl,hm,h,hk,.inr ⟨b,0,rfl,hok,hb,fun j u hu=>by rw [Nat.zero_add];exact hc j u hu⟩⟩
def yE (t:ByteArray):List Zw:=[.int .i64 1,.string t,.string ⟨#[]⟩,.string ⟨#[]⟩,.string ⟨#[]⟩,.slice none 0 0,.slice none 0 0,.slice none 0 0,.slice none 0 0,.slice none 0 0]
def gW (k lv:Int) (id:ByteArray) (vl vk:Zw):List Zw:=[.int .i64 k,.int .i64 lv,.string ⟨#[]⟩,.string ⟨#[]⟩,.string ⟨#[]⟩,.string ⟨#[]⟩,.string id,.slice none 0 0,.slice none 0 0,vl,vk]
theorem Lm (ok:Nat->Prop) (w:Zu) (t:ByteArray):Rd ok w (iJ t).d (yE t):=ah.nD 1 t ⟨#[]⟩ ⟨#[]⟩ ⟨⟨Rd.aJ _ _ _,Rd.aJ _ _ _⟩,Rd.aJ _ _ _,Rd.aJ _ _ _,Rd.aJ _ _ _⟩
theorem jc {ok:Nat->Prop} {w:Zu} (k lv:Int) (id:ByteArray) {li:List ah} {ks:List aj} {vl vk:Zw} (h:Rd ok w (fq li) [vl]) (h2:Rd ok w (aX ks) [vk]):Rd ok w (oK k lv id li ks).d (gW k lv id vl vk):=aj.nD k lv ⟨#[]⟩ ⟨#[]⟩ ⟨#[]⟩ ⟨#[]⟩ ⟨⟨Rd.aJ _ _ _,Rd.aJ _ _ _⟩,h,h2⟩
theorem oN {w:Zu} {p:Nat} {t:ByteArray} (k:CB 52 p (yE t) w) (ok:Nat->Prop) (h:ok p):Rd ok w (fq [iJ t]) [.slice (some ⟨p,0,none⟩) 1 1]:=
 Rd.zY (l:=[iJ t].map ah.d) (rows:=[yE t]) (by simp) (by unfold maxLen;decide) (aG.one (Lm _ _ _)) (by simp [yE]) h k.lt (fun j u hu=>k.cell j u (by simpa using hu))
theorem rC {ok:Nat->Prop} {w:Zu} {p:Nat} {x:aj} {cs:List Zw} (h:Rd ok w x.d cs) (hl:cs.length=11) (k:CB 47 p cs w) (hp:ok p):Rd ok w (aX [x]) [.slice (some ⟨p,0,none⟩) 1 1]:=
 Rd.zY (l:=[x].map aj.d) (rows:=[cs]) (by simp) (by unfold maxLen;decide) (aG.one h) (by simpa using hl) hp k.lt (fun j u hu=>k.cell j u (by simpa using hu))
theorem OY {ok:Nat->Prop} {w:Zu} {p:Nat} {x y:aj} {cs ds:List Zw} (h:Rd ok w x.d cs) (hl:cs.length=11) (h2:Rd ok w y.d ds) (hl2:ds.length=11) (k:CB 47 p (cs++ds) w) (hp:ok p):Rd ok w (aX [x,y]) [.slice (some ⟨p,0,none⟩) 2 2]:=
 Rd.zY (l:=[x,y].map aj.d) (rows:=[cs,ds]) (by simp) (by unfold maxLen;decide) (aG.cons h (aG.one h2)) (by simp [hl,hl2]) hp k.lt (fun j u hu=>k.cell j u (by simpa using hu))
theorem oM (m:Nat) (W:Int) (w0:Zu) (k lv:Int) (id t:ByteArray) (hk:k=1\/k=2) (hsh:(ah.ay [iJ t]).length<=100000) (hle:eO [iJ t]=0) (Kk:(gK (ah.aC [iJ t])).length<=100000):Nl m W w0 (oK k lv id [iJ t] []):=
 fun vc qo vl vk hR st vp p w hin=>DC m W w0 st vp p k lv ⟨#[]⟩ ⟨#[]⟩ ⟨#[]⟩ ⟨#[]⟩ ⟨id,[],[]⟩ [iJ t] [] vc qo vl vk w (by omega) hin hR hsh hle (by decide) Kk
theorem OZ (m:Nat) (w0:Zu):iU m 1000 w0 Lj:=
 gB m 1000 w0 Lj (fun x hx=>by
  rcases List.mem_cons.1 hx with rfl | hx
  ·exact oM m 1000 w0 2 1 _ _ (.inr rfl) (by decide +kernel) (by decide +kernel) (by decide +kernel)
  ·obtain rfl:=List.mem_singleton.1 hx;exact oM m 1000 w0 1 0 _ _ (.inl rfl) (by decide +kernel) (by decide +kernel) (by decide +kernel)) (fun x _=>oh 1000 (by decide) x)
theorem O1 (m:Nat) (w0:Zu):iU m 85 w0 Ll:=
 gB m 85 w0 Ll (fun x hx=>by
  obtain rfl:=List.mem_singleton.1 hx;exact oM m 85 w0 1 0 _ _ (.inl rfl) (by decide +kernel) (by decide +kernel) (by decide +kernel)) (fun x _=>oh 85 (by decide) x)
def Qw:List aj:=[lK ⟨#[97]⟩]
def Sz:List aj:=[oK 9 0 ⟨#[]⟩ [] Qw]
def Qx:List aj:=[oK 7 0 ⟨#[]⟩ [] Sz]
theorem O4 (m:Nat) (w0:Zu):iU m 1000 w0 Qw:=
 gB m 1000 w0 Qw (fun x hx=>by
  obtain rfl:=List.mem_singleton.1 hx;exact oM m 1000 w0 1 0 _ _ (.inl rfl) (by decide +kernel) (by decide +kernel) (by decide +kernel)) (fun x _=>oh 1000 (by decide) x)
theorem O5 (m:Nat) (w0:Zu):iU m 1000 w0 Qx:=
 gB m 1000 w0 Qx (fun x hx=>by
  obtain rfl:=List.mem_singleton.1 hx;exact fun vc qo vl vk hR st vp p w hin=>Dn m 1000 w0 st vp p 7 0 ⟨#[]⟩ ⟨#[]⟩ ⟨#[]⟩ ⟨#[]⟩ ⟨⟨#[]⟩,[],[]⟩ [] Sz vc qo vl vk w hin hR (.inl rfl) (by omega) (fun y hy=>by
   obtain rfl:=List.mem_singleton.1 hy;exact O4 m w0) (fun y _=>Ip 1000 (by decide) y) (by omega)) (fun x _=>oh 1000 (by decide) x)
theorem O6 (m:Nat) (w0:Zu):iU m 1000 w0 Jj:=
 gB m 1000 w0 Jj (fun x hx=>by
  obtain rfl:=List.mem_singleton.1 hx;exact fun vc qo vl vk hR st vp p w hin=>A9 m 1000 w0 st vp p 0 ⟨#[]⟩ ⟨#[]⟩ ⟨#[]⟩ ⟨#[]⟩ ⟨⟨#[]⟩,[],[]⟩ [] Qx vc qo vl vk w hin hR (O5 m w0)) (fun x _=>oh 1000 (by decide) x)
theorem sI (id:ByteArray) (h:id.size<=300):At.short ⟨id,[],[]⟩:=⟨by simp,by simp,Nat.le_trans h (by decide),by simp,by simp⟩
theorem rM (t:ByteArray) (h:t.size<=300):ah.aQ [iJ t]:=by
 have h1:=sI ⟨#[]⟩ (by decide);have h4:(⟨#[]⟩:ByteArray).size<=300:=by decide
 simp [iJ,ah.aQ,ah.small,h1,h,h4]
theorem zZ (t:ByteArray):ah.aW [iJ t]=1:=by simp [iJ,ah.aW,ah.sz]
theorem lD (k lv:Int) (id:ByteArray) (li:List ah) (ks:List aj) (hi:id.size<=300) (h:ah.aQ li) (h1:ah.aW li<=120) (h2:aj.aQ ks):aj.aQ [oK k lv id li ks]:=by
 have h3:=sI id hi;have h4:(⟨#[]⟩:ByteArray).size<=300:=by decide
 simp [oK,aj.aQ,aj.small,h1,h2,h3,h4,h]
theorem EJ (t:ByteArray) (h:t.size<=300):aj.aQ [lK t]:=lD 1 0 _ _ _ (by decide) (rM t h) (by rw [zZ];decide) (by rw [aj.aQ];trivial)
theorem Jk (t:ByteArray):ah.ku [iJ t]:=by simp [iJ,ah.ku,ah.bd]
theorem EK (k lv:Int) (id:ByteArray) (li:List ah) (ks:List aj) (h:ah.ku li) (h1:ah.aW li<=120) (h2:aj.ku ks):aj.ku [oK k lv id li ks]:=by
 have h3:ah.aW li<=1000000:=by omega
 simp [oK,aj.ku,aj.bd,h,h2,h3]
theorem zG (t:ByteArray):aj.ku [lK t]:=EK 1 0 _ _ _ (Jk t) (by rw [zZ];decide) (by rw [aj.ku];trivial)
theorem kF:ah.aQ []:=by rw [ah.aQ];trivial
theorem tL:ah.ku []:=by rw [ah.ku];trivial
theorem wN (x y:aj) (h1:aj.aQ [x]) (h2:aj.aQ [y]):aj.aQ [x,y]:=by rw [aj.aQ] at h1 ⊢;exact ⟨h1.1,h2⟩
theorem EL (x y:aj) (h1:aj.ku [x]) (h2:aj.ku [y]):aj.ku [x,y]:=by rw [aj.ku] at h1 ⊢;exact ⟨h1.1,h2⟩
def Mh (_:ByteArray):Bool:=true
theorem G8 (w:Zu) (ab:Option Addr) (nb cb:Nat) (h:Rd (·<w.heap.size) w (aX Lj) [.slice ab nb cb]) (ht:TabAt w) (hml:jY w) : Calls Tryz.prog 11 #[.agg #[.slice none 0 0,.slice ab nb cb],.int .i64 1000] w (Nu (FJ,0) w):=by
 have e:DX Mh 1000 [] Lj=(FJ,0):=OQ;rw [<- e];exact kU Mh 1000 [] Lj none ab 0 nb cb w (by decide) (by simp) (by simp) (by decide +kernel) (aj.eu _ (wN _ _ (lD 2 1 _ _ _ (by decide) (rM _ (by decide)) (by rw [zZ];decide) (by rw [aj.aQ];trivial)) (EJ _ (by decide)))) (fun e=>absurd e (by decide +kernel))
  (EL _ _ (EK 2 1 _ _ _ (Jk _) (by rw [zZ];decide) (by rw [aj.ku];trivial)) (zG _)) (by decide +kernel) (by decide +kernel) (by decide +kernel) (Rd.aJ _ _ _) h (fun _ _ wz _=>OZ _ wz) ht hml
theorem G9 (w:Zu) (ab:Option Addr) (nb cb:Nat) (h:Rd (·<w.heap.size) w (aX Jj) [.slice ab nb cb]) (ht:TabAt w) (hml:jY w) : Calls Tryz.prog 11 #[.agg #[.slice none 0 0,.slice ab nb cb],.int .i64 1000] w (Nu (Mf,0) w):=by
 have e:DX Mh 1000 [] Jj=(Mf,0):=OT;rw [<- e];have z:ah.aW []<=120:=by decide +kernel
 exact kU Mh 1000 [] Jj none ab 0 nb cb w (by decide) (by simp) (by simp) (by decide +kernel) (aj.eu _ (lD 6 0 _ _ _ (by decide) kF z (lD 7 0 _ _ _ (by decide) kF z (lD 9 0 _ _ _ (by decide) kF z (EJ _ (by decide)))))) (fun e=>absurd e (by decide +kernel))
  (EK 6 0 _ _ _ tL z (EK 7 0 _ _ _ tL z (EK 9 0 _ _ _ tL z (zG _)))) (by decide +kernel) (by decide +kernel) (by decide +kernel) (Rd.aJ _ _ _) h (fun _ _ wz _=>O6 _ wz) ht hml
theorem He (w:Zu) (ab:Option Addr) (nb cb:Nat) (h:Rd (·<w.heap.size) w (aX Ll) [.slice ab nb cb]) (ht:TabAt w) (hml:jY w) : Calls Tryz.prog 11 #[.agg #[.slice none 0 0,.slice ab nb cb],.int .i64 85] w (Nu (Mg,0) w):=by have e:DX Mh 85 [] Ll=(Mg,0):=OU;rw [<- e];exact kU Mh 85 [] Ll none ab 0 nb cb w (by decide) (by simp) (by simp) (by decide +kernel) (aj.eu _ (EJ _ (by decide))) (fun e=>absurd e (by decide +kernel)) (zG _) (by decide +kernel) (by decide +kernel) (by decide +kernel) (Rd.aJ _ _ _) h (fun _ _ wz _=>O1 _ wz) ht hml
open Go.RowKit
def mH (p:Nat):List Zw:=gW 1 0 ⟨#[]⟩ (.slice (some ⟨p,0,none⟩) 1 1) (.slice none 0 0)
def EM (t:ByteArray) (w:Zu) (e:Ending) (w':Zu):Prop:=
 ∃ p,e=.returned (.agg (mH p).toArray)/\w.heap.size<=p/\CB 52 p (yE t) w'/\Zv w.heap.size w w'
theorem O7 (t:ByteArray) (w:Zu):∃ S W1,S=w.heap.size/\W1=(w.alloc (.cells (gW 0 0 ⟨#[]⟩ (.slice none 0 0) (.slice none 0 0)).toArray 47)).alloc (.cells (yE t).toArray 52)/\CB 47 S (gW 0 0 ⟨#[]⟩ (.slice none 0 0) (.slice none 0 0)) W1 /\ CB 47 S (mH (S+1)) (pV W1 S 0 (mH (S+1)))/\EM t w (.returned (.agg (mH (S+1)).toArray)) (pV W1 S 0 (mH (S+1))):=by
 obtain ⟨S,hS⟩:∃ S,S=w.heap.size:=⟨_,rfl⟩;obtain ⟨W1,hW⟩:∃ W1,W1=(w.alloc (.cells (gW 0 0 ⟨#[]⟩ (.slice none 0 0) (.slice none 0 0)).toArray 47)).alloc (.cells (yE t).toArray 52):=⟨_,rfl⟩;have z:(w.alloc (.cells (gW 0 0 ⟨#[]⟩ (.slice none 0 0) (.slice none 0 0)).toArray 47)).heap.size=S+1:=by rw [YU,hS]
 have k0:CB 47 S (gW 0 0 ⟨#[]⟩ (.slice none 0 0) (.slice none 0 0)) W1:=by rw [hW,hS];exact (CB.new _ _ w).below ((YH _ _).alloc (YI _) _)
 have k1:CB 52 (S+1) (yE t) W1:=by rw [hW,<- z];exact CB.new _ _ _
 have b1:Zv w.heap.size w W1:=by rw [hW];exact ((YH _ _).alloc (YI _) _).alloc (by rw [z];omega) _
 refine ⟨S,W1,hS,hW,k0,?_,S+1,rfl,by omega,(pW S _ _ _ _ (by omega)).trans k1,?_⟩
 ·exact qN (qN (qN (qN (qN (qN (qN (qN (qN (qN (qN k0 0 _) 1 _) 2 _) 3 _) 4 _) 5 _) 6 _) 7 _) 8 _) 9 _) 10 _
 ·have hs:=Nat.le_of_eq hS.symm;exact ((((((((((b1.setCell (p:=⟨S,0,none⟩) hs _).setCell (p:=⟨S,1,none⟩) hs _).setCell (p:=⟨S,2,none⟩) hs _).setCell (p:=⟨S,3,none⟩) hs _).setCell (p:=⟨S,4,none⟩) hs _).setCell (p:=⟨S,5,none⟩) hs _).setCell (p:=⟨S,6,none⟩) hs _).setCell (p:=⟨S,7,none⟩) hs _).setCell (p:=⟨S,8,none⟩) hs _).setCell (p:=⟨S,9,none⟩) hs _).setCell (p:=⟨S,10,none⟩) hs _
theorem sK (t:ByteArray) (w:Zu):Calls Tryz.prog 14 #[.string t] w (EM t w):=by
 obtain ⟨S,W1,hS,hW,k0,k1,hP⟩:=O7 t w;obtain ⟨w9,BK⟩:∃ w9,w9=pV W1 S 0 (mH (S+1)):=⟨_,rfl⟩;obtain ⟨w0,hw0⟩:∃ w0,w0=w.alloc (.cells (gW 0 0 ⟨#[]⟩ (.slice none 0 0) (.slice none 0 0)).toArray 47):=⟨_,rfl⟩;have z0:w0.heap.size=S+1:=by rw [hw0,YU,hS]
 rw [<- BK] at k1 hP;rw [<- hw0] at hW;have HP:=hid hP;have K1:=hid k1;have HZ:=hid z0;have r0:=k0.cell 0 _ rfl;have r1:=k0.cell 1 _ rfl;have r2:=k0.cell 2 _ rfl;have r3:=k0.cell 3 _ rfl;have r4:=k0.cell 4 _ rfl;have r5:=k0.cell 5 _ rfl;have r6:=k0.cell 6 _ rfl;have r7:=k0.cell 7 _ rfl;have r8:=k0.cell 8 _ rfl;have r9:=k0.cell 9 _ rfl;have O8:=k0.cell 10 _ rfl;have g0:=rX k0 0;have g1:=rX k0 1;have g2:=rX k0 2;have g3:=rX k0 3;have g4:=rX k0 4;have g5:=rX k0 5;have g6:=rX k0 6;have g7:=rX k0 7;have g8:=rX k0 8;have g9:=rX k0 9;have g10:=rX k0 10;simp only [mH,gW,pV] at BK;simp only [yE] at hW;subst hW;simp only [gW] at hw0;clear hP k0 k1 z0;go_enter Tryz.func14,Tryz.ntmps14;go_upto_region 1 with (fail)
 rw [<- hw0,<- hS];clear hw0 hS;go_wp2;simp only [HZ.out];rw [<- BK];clear BK r0 r1 r2 r3 r4 r5 r6 r7 r8 r9 O8;have r0:=K1.out.cell 0 _ rfl;have r1:=K1.out.cell 1 _ rfl;have r2:=K1.out.cell 2 _ rfl;have r3:=K1.out.cell 3 _ rfl;have r4:=K1.out.cell 4 _ rfl;have r5:=K1.out.cell 5 _ rfl;have r6:=K1.out.cell 6 _ rfl;have r7:=K1.out.cell 7 _ rfl;have r8:=K1.out.cell 8 _ rfl;have r9:=K1.out.cell 9 _ rfl;have O8:=K1.out.cell 10 _ rfl;exact bodyPost_ret (v:=.agg (mH (S+1)).toArray) (by simp [mH,gW,results,Tryz.results14,go_sem,r0,r1,r2,r3,r4,r5,r6,r7,r8,r9,O8]) rfl HP.out
open Go.RowKit
theorem uZ {ok:Nat->Prop} {w:Zu} {d:D} {cs:List Zw} (h:Rd ok w d cs):Rd (·<w.heap.size) w d cs:=Rd.keep (fun b _ hlt=>⟨hlt,rfl⟩) _ _ h
theorem Hf (w5:Zu) (p:Nat) (k:CB 52 p (yE ⟨#[97]⟩) w5):∃ w9 xw,w9=(((w5.alloc (.cells (mH p).toArray 47)).alloc (.cells (gW 9 0 ⟨#[]⟩ (.slice none 0 0) (.slice (some ⟨w5.heap.size,0,none⟩) 1 1)).toArray 47)).alloc (.cells (gW 7 0 ⟨#[]⟩ (.slice none 0 0) (.slice (some ⟨w5.heap.size+1,0,none⟩) 1 1)).toArray 47)).alloc (.cells (gW 6 0 ⟨#[]⟩ (.slice none 0 0) (.slice (some ⟨w5.heap.size+1+1,0,none⟩) 1 1)).toArray 47) /\ xw=w9.alloc (.cells (gW 6 0 ⟨#[]⟩ (.slice none 0 0) (.slice (some ⟨w5.heap.size+1+1,0,none⟩) 1 1)).toArray 47)/\w9.heap.size=w5.heap.size+1+1+1+1/\CB 47 (w5.heap.size+1+1+1) (gW 6 0 ⟨#[]⟩ (.slice none 0 0) (.slice (some ⟨w5.heap.size+1+1,0,none⟩) 1 1)) w9/\Zv w5.heap.size w5 w9/\Zv w5.heap.size w5 xw /\ Rd (·<xw.heap.size) xw (aX Jj) [.slice (some ⟨w9.heap.size,0,none⟩) 1 1]:=by
 obtain ⟨w6,xD⟩:∃ w6,w6=w5.alloc (.cells (mH p).toArray 47):=⟨_,rfl⟩;have z6:w6.heap.size=w5.heap.size+1:=by rw [xD,YU]
 obtain ⟨w7,hw7⟩:∃ w7,w7=w6.alloc (.cells (gW 9 0 ⟨#[]⟩ (.slice none 0 0) (.slice (some ⟨w5.heap.size,0,none⟩) 1 1)).toArray 47):=⟨_,rfl⟩;have z7:w7.heap.size=w5.heap.size+1+1:=by rw [hw7,YU,z6]
 obtain ⟨w8,hw8⟩:∃ w8,w8=w7.alloc (.cells (gW 7 0 ⟨#[]⟩ (.slice none 0 0) (.slice (some ⟨w5.heap.size+1,0,none⟩) 1 1)).toArray 47):=⟨_,rfl⟩;have z8:w8.heap.size=w5.heap.size+1+1+1:=by rw [hw8,YU,z7]
 obtain ⟨w9,BK⟩:∃ w9,w9=w8.alloc (.cells (gW 6 0 ⟨#[]⟩ (.slice none 0 0) (.slice (some ⟨w5.heap.size+1+1,0,none⟩) 1 1)).toArray 47):=⟨_,rfl⟩;have z9:w9.heap.size=w5.heap.size+1+1+1+1:=by rw [BK,YU,z8]
 obtain ⟨xw,yY⟩:∃ xw,xw=w9.alloc (.cells (gW 6 0 ⟨#[]⟩ (.slice none 0 0) (.slice (some ⟨w5.heap.size+1+1,0,none⟩) 1 1)).toArray 47):=⟨_,rfl⟩;have b6:Zv w5.heap.size w5 w6:=by rw [xD];exact (YH _ _).alloc (YI _) _
 have b7:Zv w6.heap.size w6 w7:=by rw [hw7];exact (YH _ _).alloc (YI _) _
 have b8:Zv w7.heap.size w7 w8:=by rw [hw8];exact (YH _ _).alloc (YI _) _
 have b9:Zv w8.heap.size w8 w9:=by rw [BK];exact (YH _ _).alloc (YI _) _
 have b10:Zv w9.heap.size w9 xw:=by rw [yY];exact (YH _ _).alloc (YI _) _
 have k6:CB 47 w5.heap.size (mH p) w6:=by rw [xD];exact CB.new _ _ _
 have k7:CB 47 (w5.heap.size+1) (gW 9 0 ⟨#[]⟩ (.slice none 0 0) (.slice (some ⟨w5.heap.size,0,none⟩) 1 1)) w7:=by rw [hw7,<- z6];exact CB.new _ _ _
 have k8:CB 47 (w5.heap.size+1+1) (gW 7 0 ⟨#[]⟩ (.slice none 0 0) (.slice (some ⟨w5.heap.size+1,0,none⟩) 1 1)) w8:=by rw [hw8,<- z7];exact CB.new _ _ _
 have k9:CB 47 (w5.heap.size+1+1+1) (gW 6 0 ⟨#[]⟩ (.slice none 0 0) (.slice (some ⟨w5.heap.size+1+1,0,none⟩) 1 1)) w9:=by rw [BK,<- z8];exact CB.new _ _ _
 have k10:CB 47 w9.heap.size (gW 6 0 ⟨#[]⟩ (.slice none 0 0) (.slice (some ⟨w5.heap.size+1+1,0,none⟩) 1 1)) xw:=by rw [yY];exact CB.new _ _ _
 have O9:=aM (aM (aM (aM b6 b7) b8) b9) b10;have h1:Rd (fun _=>True) xw (aX Qw) [.slice (some ⟨w5.heap.size,0,none⟩) 1 1]:=rC (jc 1 0 _ (oN (k.below O9) _ trivial) (Rd.aJ _ _ _)) rfl ((((k6.below b7).below b8).below b9).below b10) trivial;have h2:Rd (fun _=>True) xw (aX Sz) [.slice (some ⟨w5.heap.size+1,0,none⟩) 1 1]:=rC (jc 9 0 _ (Rd.aJ _ _ _) h1) rfl (((k7.below b8).below b9).below b10) trivial;have h3:Rd (fun _=>True) xw (aX Qx) [.slice (some ⟨w5.heap.size+1+1,0,none⟩) 1 1]:=rC (jc 7 0 _ (Rd.aJ _ _ _) h2) rfl ((k8.below b9).below b10) trivial;have h4:Rd (fun _=>True) xw (aX Jj) [.slice (some ⟨w9.heap.size,0,none⟩) 1 1]:=rC (jc 6 0 _ (Rd.aJ _ _ _) h3) rfl k10 trivial;exact ⟨w9,xw,by rw [BK,hw8,hw7,xD],yY,z9,k9,aM (aM (aM b6 b7) b8) b9,O9,uZ h4⟩
theorem Lp {ok:Nat->Prop} {w:Zu} {v:Zw} (h:Rd ok w (.sl 6 (FJ.map Bx.d)) [v]):∃ b off c aa ca,v=.slice (some ⟨b,off,none⟩) 2 c/\2<=c/\c<=9223372036854775807 /\ ∀ w',Zv w.heap.size w w'->(w'.cell? ⟨b,off,none⟩=some (.string ⟨#[65]⟩)/\w'.cell? ⟨b,off+1,none⟩=some (.int .i64 2)/\w'.cell? ⟨b,off+3,none⟩=some (.bool true)/\w'.cell? ⟨b,off+5,none⟩=some (.slice aa 1 ca)/\w'.cell? ⟨b,off+6+2,none⟩=some (.int .i64 1)):=by
 obtain ⟨a,c,hv,hs⟩:=Rd.aD h;obtain rfl:v=.slice a 2 c:=by simpa [FJ] using hv
 obtain ⟨b,off,va,rfl,-,-,⟨c0,c1,c2,c3,c4,c5⟩,hva⟩:=iT hs (k:=0) rfl;obtain ⟨b',off',Vf,ha,-,-,⟨d0,d1,d2,d3,d4,d5⟩,-⟩:=iT hs (k:=1) rfl;obtain ⟨rfl,rfl⟩:b=b'/\off=off':=by simpa using ha
 obtain ⟨aa,ca,hvv,hsa⟩:=Rd.aD hva;obtain rfl:va=.slice aa 1 ca:=by simpa using hvv
 simp only [Nat.zero_mul,Nat.add_zero,Nat.one_mul] at c0 c1 c3 c5 d2;have h1:=hs.le;have h2:=hs.max;unfold maxLen at h2;simp [FJ] at h1;refine ⟨b,off,c,aa,ca,rfl,h1,by omega,fun w' hb=>?_⟩;have e1:∀ j x,w.cell? ⟨b,j,none⟩=some x->w'.cell? ⟨b,j,none⟩=some x:=fun j x e=>by rw [hb.cell (p:=⟨b,j,none⟩) (fM e)];exact e
 exact ⟨e1 _ _ c0,e1 _ _ c1,e1 _ _ c3,e1 _ _ c5,e1 _ _ d2⟩
theorem Lr {ok:Nat->Prop} {w:Zu} {v:Zw} (h:Rd ok w (.sl 6 (Mf.map Bx.d)) [v]):∃ b off c,v=.slice (some ⟨b,off,none⟩) 1 c/\1<=c/\c<=9223372036854775807 /\ ∀ w',Zv w.heap.size w w'->(w'.cell? ⟨b,off,none⟩=some (.string ⟨#[62,32,45,32,97]⟩)):=by
 obtain ⟨a,c,hv,hs⟩:=Rd.aD h;obtain rfl:v=.slice a 1 c:=by simpa [Mf] using hv
 obtain ⟨b,off,va,rfl,-,-,⟨c0,c1,c2,c3,c4,c5⟩,hva⟩:=iT hs (k:=0) rfl;simp only [Nat.zero_mul,Nat.add_zero] at c0;have h1:=hs.le;have h2:=hs.max;unfold maxLen at h2;simp [Mf] at h1;refine ⟨b,off,c,rfl,h1,by omega,fun w' hb=>?_⟩;rw [hb.cell (p:=⟨b,off,none⟩) (fM c0)];exact c0
theorem Ls {ok:Nat->Prop} {w:Zu} {v:Zw} (h:Rd ok w (.sl 6 (Mg.map Bx.d)) [v]):∃ b off c,v=.slice (some ⟨b,off,none⟩) 3 c/\3<=c/\c<=9223372036854775807 /\ ∀ w',Zv w.heap.size w w'->(w'.cell? ⟨b,off+3,none⟩=some (.bool true)/\w'.cell? ⟨b,off+6+3,none⟩=some (.bool true)/\w'.cell? ⟨b,off+12+3,none⟩=some (.bool false)):=by
 obtain ⟨a,c,hv,hs⟩:=Rd.aD h;obtain rfl:v=.slice a 3 c:=by simpa [Mg] using hv
 obtain ⟨b,off,va,rfl,-,-,⟨c0,c1,c2,c3,c4,c5⟩,hva⟩:=iT hs (k:=0) rfl;obtain ⟨b',off',Vf,ha,-,-,⟨d0,d1,d2,d3,d4,d5⟩,-⟩:=iT hs (k:=1) rfl;obtain ⟨rfl,rfl⟩:b=b'/\off=off':=by simpa using ha
 obtain ⟨b',off',Vf,ha,-,-,⟨e0,e1,e2,e3,e4,e5⟩,-⟩:=iT hs (k:=2) rfl;obtain ⟨rfl,rfl⟩:b=b'/\off=off':=by simpa using ha
 simp only [Nat.zero_mul,Nat.add_zero,Nat.one_mul,show 2*6=12 from rfl] at c3 d3 e3;have h1:=hs.le;have h2:=hs.max;unfold maxLen at h2;simp [Mg] at h1;refine ⟨b,off,c,rfl,h1,by omega,fun w' hb=>?_⟩;have f:∀ j x,w.cell? ⟨b,j,none⟩=some x->w'.cell? ⟨b,j,none⟩=some x:=fun j x e=>by rw [hb.cell (p:=⟨b,j,none⟩) (fM e)];exact e
 exact ⟨f _ _ c3,f _ _ d3,f _ _ e3⟩
theorem EN:∀ x∈FJ,x.fine:=by
 intro x hx;simp [FJ] at hx;rcases hx with rfl | rfl
 ·exact ⟨by decide,by decide,fun s hs=>by simp at hs;subst hs;decide⟩
 ·exact ⟨by decide,by decide,fun s hs=>by simp at hs⟩
theorem EO:∀ x∈[(⟨⟨#[]⟩,0,0,false,false,[]⟩:Bx)],x.fine:=by intro x hx;simp at hx;subst hx;exact ⟨by decide,by decide,fun s hs=>by simp at hs⟩
theorem Gr (w:Zu) (ht:TabAt w) (hml:jY w):Calls Tryz.prog 7 #[] w (dO (.bool true) w):=by
 obtain ⟨S,hS⟩:∃ S,S=w.heap.size:=⟨_,rfl⟩;obtain ⟨wa,Db⟩:∃ wa,wa=w.alloc (.cells (yE ⟨#[65]⟩).toArray 52):=⟨_,rfl⟩;have za:wa.heap.size=S+1:=by rw [Db,YU,hS]
 obtain ⟨w1,hw1⟩:∃ w1,w1=wa.alloc (.cells (gW 2 1 ⟨#[97]⟩ (.slice (some ⟨S,0,none⟩) 1 1) (.slice none 0 0)).toArray 47):=⟨_,rfl⟩;have ka:CB 52 S (yE ⟨#[65]⟩) wa:=by rw [Db,hS];exact CB.new _ _ _
 have k1:CB 47 (S+1) (gW 2 1 ⟨#[97]⟩ (.slice (some ⟨S,0,none⟩) 1 1) (.slice none 0 0)) w1:=by rw [hw1,<- za];exact CB.new _ _ _
 have ba:Zv w.heap.size w wa:=by rw [Db];exact (YH _ _).alloc (YI _) _
 have b1:Zv wa.heap.size wa w1:=by rw [hw1];exact (YH _ _).alloc (YI _) _
 have B1:=hid (aM ba b1);have KH:=hid k1;have KI:=hid (ka.below b1);have HT:=hid ht;have HM:=hid hml;have XK:=hid (fun w=>sK ⟨#[98]⟩ w);have Vg:=hid (fun w=>sK ⟨#[97]⟩ w);have Vh:=hid (fun w=>sK ⟨#[109,32,109,32,109]⟩ w);have SS:(fun w'=>CB 47 (S+1) (gW 2 1 ⟨#[97]⟩ (.slice (some ⟨S,0,none⟩) 1 1) (.slice none 0 0)) w') w1.drew:=k1;rw [hS] at SS KH KI;simp only [yE] at Db;simp only [gW,hS] at hw1;subst Db;clear hS ka k1 ba b1 ht hml za;go_enter Tryz.func7,Tryz.ntmps7;go_wp2_with fail
 rw [<- hw1];clear hw1;refine iN 9 (fun w'=>CB 47 (w.heap.size+1) (gW 2 1 ⟨#[97]⟩ (.slice (some ⟨w.heap.size,0,none⟩) 1 1) (.slice none 0 0)) w') (by kernel_rfl) SS ?_;intro hH;refine iH 0 rfl (by kernel_rfl) hH (by rfl) (by intro wv hSw;(have d0:=CB.cell hSw 0 _ rfl;have d1:=CB.cell hSw 1 _ rfl;have d2:=CB.cell hSw 2 _ rfl;have d3:=CB.cell hSw 3 _ rfl;have d4:=CB.cell hSw 4 _ rfl;have d5:=CB.cell hSw 5 _ rfl;have d6:=CB.cell hSw 6 _ rfl;have d7:=CB.cell hSw 7 _ rfl;have d8:=CB.cell hSw 8 _ rfl;have d9:=CB.cell hSw 9 _ rfl;have d10:=CB.cell hSw 10 _ rfl);go_simp;try with_reducible rfl) ?_;try simp only [Act.put,YD,YE,YF]
 refine Fu (i:=1) rfl (by kernel_rfl) (fun KQ hK=>?_);go_simp;go_at_call 14
 (with_reducible refine (XK.out _).mono ?_)
 rintro e w2 ⟨p2,rfl,hp2,Vi,b2⟩;have B2:=hid (B1.out.drew.trans (b2.mono B1.out.size));have Vj:=hid (KH.out.below ((YH _ w1).drew.trans b2));have Vk:=KI.out.below ((YH _ w1).drew.trans b2);obtain ⟨s2,hs2⟩:∃ s2,s2=w2.heap.size:=⟨_,rfl⟩;obtain ⟨w3,hw3⟩:∃ w3,w3=w2.alloc (.cells ((gW 2 1 ⟨#[97]⟩ (.slice (some ⟨w.heap.size,0,none⟩) 1 1) (.slice none 0 0))++mH p2).toArray 47):=⟨_,rfl⟩;have k3:CB 47 s2 ((gW 2 1 ⟨#[97]⟩ (.slice (some ⟨w.heap.size,0,none⟩) 1 1) (.slice none 0 0))++mH p2) w3:=by rw [hw3,hs2];exact CB.new _ _ _
 have b3:Zv w2.heap.size w2 w3:=by rw [hw3];exact (YH _ _).alloc (YI _) _
 have hd1:Rd (fun _=>True) w3 (aX Lj) [.slice (some ⟨s2,0,none⟩) 2 2]:=OY (jc 2 1 _ (oN (Vk.below b3) _ trivial) (Rd.aJ _ _ _)) rfl (jc 1 0 _ (oN (Vi.below b3) _ trivial) (Rd.aJ _ _ _)) rfl k3 trivial;have B3:=hid (aM B2.out b3);have Vl:=hid (G8 w3 _ _ _ (uZ hd1) (HT.out.below B3.out) (HM.out.below B3.out));have Vm:=hid (Vj.out.below b3);simp only [gW,mH,List.cons_append,List.nil_append] at hw3;clear hp2 Vi b2 Vk k3 b3 hd1;refine hK.out _ _ (fun _ _=>Vj.out) (fun hH2=>?_);clear hK KQ hH;have hH:=hH2 (by decide) (by kernel_rfl);clear hH2;try simp only [Act.put,YD,YE,YF]
 try simp only [Act.put,YD,YE,YF]
 refine Fu (i:=2) rfl (by kernel_rfl) (fun KQ hK=>?_);simp only [mH,gW];go_simp;rw [<- hw3,<- hs2];clear hw3 hs2;refine hK.out _ _ (fun _ _=>Vm.out) (fun hH2=>?_);clear hK KQ hH;have hH:=hH2 (by decide) (by kernel_rfl);clear hH2;try simp only [Act.put,YD,YE,YF]
 refine iH 3 rfl (by kernel_rfl) hH (by rfl) (by intro wv hSw;(have d0:=CB.cell hSw 0 _ rfl;have d1:=CB.cell hSw 1 _ rfl;have d2:=CB.cell hSw 2 _ rfl;have d3:=CB.cell hSw 3 _ rfl;have d4:=CB.cell hSw 4 _ rfl;have d5:=CB.cell hSw 5 _ rfl;have d6:=CB.cell hSw 6 _ rfl;have d7:=CB.cell hSw 7 _ rfl;have d8:=CB.cell hSw 8 _ rfl;have d9:=CB.cell hSw 9 _ rfl;have d10:=CB.cell hSw 10 _ rfl);go_simp;try with_reducible rfl) ?_;try simp only [Act.put,YD,YE,YF]
 refine Fu (i:=4) rfl (by kernel_rfl) (fun KQ hK=>?_);go_simp;go_at_call 11
 (with_reducible refine Vl.out.mono ?_)
 rintro e w4 ⟨v1,rfl,hr1,b4⟩;have B4:=hid (aM B3.out b4);have XL:=hid (Vm.out.below b4);have HR1:=hid (uZ hr1);clear hr1 b4;refine hK.out _ _ (fun _ _=>XL.out) (fun hH2=>?_);clear hK KQ hH;have hH:=hH2 (by decide) (by kernel_rfl);clear hH2;try simp only [Act.put,YD,YE,YF]
 refine iH 5 rfl (by kernel_rfl) hH (by rfl) (by intro wv hSw;(have d0:=CB.cell hSw 0 _ rfl;have d1:=CB.cell hSw 1 _ rfl;have d2:=CB.cell hSw 2 _ rfl;have d3:=CB.cell hSw 3 _ rfl;have d4:=CB.cell hSw 4 _ rfl;have d5:=CB.cell hSw 5 _ rfl;have d6:=CB.cell hSw 6 _ rfl;have d7:=CB.cell hSw 7 _ rfl;have d8:=CB.cell hSw 8 _ rfl;have d9:=CB.cell hSw 9 _ rfl;have d10:=CB.cell hSw 10 _ rfl);go_simp;try with_reducible rfl) ?_;refine iH 6 rfl (by kernel_rfl) hH (by rfl) (by intro wv hSw;(have d0:=CB.cell hSw 0 _ rfl;have d1:=CB.cell hSw 1 _ rfl;have d2:=CB.cell hSw 2 _ rfl;have d3:=CB.cell hSw 3 _ rfl;have d4:=CB.cell hSw 4 _ rfl;have d5:=CB.cell hSw 5 _ rfl;have d6:=CB.cell hSw 6 _ rfl;have d7:=CB.cell hSw 7 _ rfl;have d8:=CB.cell hSw 8 _ rfl;have d9:=CB.cell hSw 9 _ rfl;have d10:=CB.cell hSw 10 _ rfl);go_simp;try with_reducible rfl) ?_;refine iH 7 rfl (by kernel_rfl) hH (by rfl) (by intro wv hSw;(have d0:=CB.cell hSw 0 _ rfl;have d1:=CB.cell hSw 1 _ rfl;have d2:=CB.cell hSw 2 _ rfl;have d3:=CB.cell hSw 3 _ rfl;have d4:=CB.cell hSw 4 _ rfl;have d5:=CB.cell hSw 5 _ rfl;have d6:=CB.cell hSw 6 _ rfl;have d7:=CB.cell hSw 7 _ rfl;have d8:=CB.cell hSw 8 _ rfl;have d9:=CB.cell hSw 9 _ rfl;have d10:=CB.cell hSw 10 _ rfl);go_simp;try with_reducible rfl) ?_;refine iH 8 rfl (by kernel_rfl) hH (by rfl) (by intro wv hSw;(have d0:=CB.cell hSw 0 _ rfl;have d1:=CB.cell hSw 1 _ rfl;have d2:=CB.cell hSw 2 _ rfl;have d3:=CB.cell hSw 3 _ rfl;have d4:=CB.cell hSw 4 _ rfl;have d5:=CB.cell hSw 5 _ rfl;have d6:=CB.cell hSw 6 _ rfl;have d7:=CB.cell hSw 7 _ rfl;have d8:=CB.cell hSw 8 _ rfl;have d9:=CB.cell hSw 9 _ rfl;have d10:=CB.cell hSw 10 _ rfl);go_simp;try with_reducible rfl) ?_;try simp only [Act.put,YD,YE,YF]
 refine Fu (i:=9) rfl (by kernel_rfl) (fun KQ hK=>?_);go_simp;refine hK.out _ _ (fun h _=>absurd rfl h) (fun _=>?_);clear hK KQ;refine iO (by kernel_rfl) ?_ _;go_wp2_with fail
 (with_reducible refine (Vg.out _).mono ?_)
 rintro e w5 ⟨p5,rfl,XM,Vn,b5⟩;obtain ⟨w9,xw,BK,yY,z9,k9,b9,b10,Pb⟩:=Hf w5 p5 Vn;have B5:=hid (aM B4.out b5);have XO:=hid b5;have B9:=hid b9;have B10:=hid b10;have Vo:=hid (G9 xw _ _ _ Pb (HT.out.below (aM B5.out b10)) (HM.out.below (aM B5.out b10)));have K9:=hid k9;obtain ⟨s5,hs5⟩:∃ s5,s5=w5.heap.size:=⟨_,rfl⟩;have YA:=hid z9;have r0:=K9.out.cell 0 _ rfl;have r1:=K9.out.cell 1 _ rfl;have r2:=K9.out.cell 2 _ rfl;have r3:=K9.out.cell 3 _ rfl;have r4:=K9.out.cell 4 _ rfl;have r5:=K9.out.cell 5 _ rfl;have r6:=K9.out.cell 6 _ rfl;have r7:=K9.out.cell 7 _ rfl;have r8:=K9.out.cell 8 _ rfl;have r9:=K9.out.cell 9 _ rfl;have O8:=K9.out.cell 10 _ rfl;simp only [mH,gW] at BK yY;clear XM Vn b5 k9 b9 b10 Pb z9;simp only [mH,gW];go_upto_region 4 with (fail)
 rw [<- BK];clear BK hs5;go_wp2_with fail
 rw [<- yY];clear yY r0 r1 r2 r3 r4 r5 r6 r7 r8 r9 O8
 (with_reducible refine Vo.out.mono ?_)
 rintro e YB ⟨v2,rfl,hr2,b11⟩;have B11:=hid (aM (aM B5.out B10.out) b11);have SA:=hid (aM (aM XO.out B10.out) b11);have HR2:=hid (uZ hr2);clear hr2 b11 Vo Vl Vg;go_wp2_with fail
 (with_reducible refine (Vh.out _).mono ?_)
 rintro e Pf ⟨Vp,rfl,SB,Pg,b12⟩;obtain ⟨Mi,EP⟩:∃ Mi,Mi=Pf.alloc (.cells (mH Vp).toArray 47):=⟨_,rfl⟩;have k13:CB 47 Pf.heap.size (mH Vp) Mi:=by rw [EP];exact CB.new _ _ _
 have b13:Zv Pf.heap.size Pf Mi:=by rw [EP];exact (YH _ _).alloc (YI _) _
 have hd3:Rd (fun _=>True) Mi (aX Ll) [.slice (some ⟨Pf.heap.size,0,none⟩) 1 1]:=rC (jc 1 0 _ (oN (Pg.below b13) _ trivial) (Rd.aJ _ _ _)) rfl k13 trivial;have SE:=hid (aM (aM B11.out b12) b13);have Ph:=hid (aM b12 b13);have Vq:=hid (He Mi _ _ _ (uZ hd3) (HT.out.below SE.out) (HM.out.below SE.out));simp only [mH,gW] at EP;simp only [mH,gW];clear SB Pg b12 k13 b13 hd3 Vh;go_wp2_with fail
 rw [<- EP];clear EP
 (with_reducible refine Vq.out.mono ?_)
 rintro e Qy ⟨v3,rfl,hr3,b14⟩;have XP:=hid (aM SE.out b14);have Jl:=hid (aM Ph.out b14);have Pj:=hid (aM SA.out Jl.out);have HR3:=hid (uZ hr3);clear hr3 b14 Vq;obtain ⟨q1,o1,c1,aa,ca,rfl,x1,y1,F1⟩:=Lp HR1.out;obtain ⟨q2,o2,c2,rfl,x2,y2,F2⟩:=Lr HR2.out;obtain ⟨q3,o3,c3,rfl,x3,y3,F3⟩:=Ls HR3.out;obtain ⟨f0,f1,f2,f3,f4⟩:=F1 Qy Pj.out;have f5:=F2 Qy Jl.out;obtain ⟨f6,f7,f8⟩:=F3 Qy (YH _ _);have SG:=hid (mF FJ _ Qy (HR1.out.up Pj.out) EN);rw [OV] at SG;clear F1 F2 F3;go_wp2_with fail
 (with_reducible refine SG.out.mono ?_)
 rintro e Pk ⟨rfl,b15⟩;obtain ⟨w16,hw16⟩:∃ w16,w16=Pk.alloc (.cells (bH ⟨⟨#[]⟩,0,0,false,false,[]⟩).toArray 37):=⟨_,rfl⟩;have k16:CB 37 Pk.heap.size (bH ⟨⟨#[]⟩,0,0,false,false,[]⟩) w16:=by rw [hw16];exact CB.new _ _ _
 have b16:Zv Pk.heap.size Pk w16:=by rw [hw16];exact (YH _ _).alloc (YI _) _
 have hd:Rd (fun _=>True) w16 (.sl 6 ([(⟨⟨#[]⟩,0,0,false,false,[]⟩:Bx)].map Bx.d)) [.slice (some ⟨Pk.heap.size,0,none⟩) 1 1]:=
  Rd.zY (rows:=[bH ⟨⟨#[]⟩,0,0,false,false,[]⟩]) (by simp) (by unfold maxLen;decide) (aG.one (Bx.nD ⟨⟨#[]⟩,0,0,false,false,[]⟩ (Rd.aJ _ _ _))) (by simp [bH,xO]) trivial k16.lt (fun j u hu=>k16.cell j u (by simpa using hu))
 have Vr:=hid (mF _ _ w16 (uZ hd) EO);rw [OX] at Vr;have XQ:=hid (aM (aM XP.out b15) b16);simp only [bH,xO] at hw16;clear f0 f1 f2 f3 f4 f5 f6 f7 f8 b15 k16 b16 hd SG;go_wp2_with fail
 rw [<- hw16];clear hw16
 (with_reducible refine Vr.out.mono ?_)
 rintro e YC ⟨rfl,b17⟩;have XR:=hid (aM XQ.out b17);clear b17;go_wp2;go_ret;exact ⟨rfl,XR.out⟩
def Cb (s:ByteArray):Prop:=∀ c∈s.data.toList,c=32\/(97<=c.toNat/\c.toNat<=122)
theorem Lu {s:ByteArray} (h:Cb s):Lv s:=fun c hc=>by
 rcases h c hc with rfl | h1
 ·decide
 ·omega
theorem Hg {s:ByteArray} (h:Cb s):∀ c∈s.data.toList,c≠10:=fun c hc e=>by
 subst e;rcases h _ hc with h1 | h1
 ·exact absurd h1 (by decide)
 ·exact absurd h1.1 (by decide)
theorem Pm {s:ByteArray} (h:Cb s):∀ c∈s.data.toList,Ab c=decide (c=32):=fun c hc=>by
 rcases h c hc with rfl | h1
 ·decide
 ·have:c≠32:=fun e=>by subst e;exact absurd h1.1 (by decide)
  rw [decide_eq_false this];unfold Ab;have e1:c.toNat≠32:=by omega
  have e2:c.toNat≠10:=by omega
  simp [e1,e2]
theorem tN (l:List UInt8) (c:UInt8) (h:c ∉ l):Lib.indexByte l c=-1:=by
 have hge:=Lib.indexByte_ge l c;by_cases e:Lib.indexByte l c=-1
 ·exact e
 ·obtain ⟨o,ho⟩:∃ o:Nat,Lib.indexByte l c=o:=⟨(Lib.indexByte l c).toNat,by omega⟩;exact absurd (List.mem_of_getElem? (Lib.indexByte_some ho).1) h
theorem ER {s:ByteArray} (h:Cb s):eH s=[s]:=by unfold eH;refine Lib.splitB_miss _ _ _ _ ?_;show Lib.index s.data.toList [10]=-1;rw [Lib.index_one];exact tN _ _ (fun e=>Hg h 10 e rfl)
def ns (l:List UInt8):List UInt8:=l.filter fun c=>!decide (c=32)
theorem oJ (a b:List UInt8):ns (a++b)=ns a++ns b:=by unfold ns;rw [List.filter_append]
theorem Hl {x:List UInt8} (h:∀ c∈x,Ab c=false):ns x=x:=by
 unfold ns;rw [List.filter_eq_self];intro c hc;have:=h c hc;by_cases e:c=32
 ·subst e;exact absurd this (by decide)
 ·rw [decide_eq_false e];rfl
theorem Lx (n:Nat):ns (List.replicate n 32)=[]:=by unfold ns;rw [List.filter_eq_nil_iff];intro c hc;rw [List.eq_of_mem_replicate hc];decide
theorem Ac (g:Nat->Nat):∀ (l:List ByteArray) (i:Nat),(∀ x∈l,Good x.data.toList)->ns (jo g i l)=(l.map (·.data.toList)).flatten
 | [],_,_=>rfl
 | x::t,i,h=>by
  rw [jo,oJ,oJ,Ac g t (i+1) (fun y hy=>h y (List.mem_cons_of_mem _ hy)),Hl (h x List.mem_cons_self).2];have e:ns (if i=0 then [] else List.replicate (g i) 32)=[]:=by
   split
   ·rfl
   ·exact Lx _
  rw [e,List.map_cons,List.flatten_cons];rfl
theorem Pn (l:List ByteArray) (h:∀ x∈l,Good x.data.toList):ns (jB (fun _=>1) l).data.toList=(l.map (·.data.toList)).flatten:=by have:=Ac (fun _=>1) l 0 h;unfold jB;simpa using this
theorem fI:∀ (l cur:List UInt8),(tO l cur).flatten=cur++l.filter fun c=>!Ab c
 | [],cur=>by rw [tO];split<;>simp_all
 | c::t,cur=>by
  rw [tO];cases hc:Ab c with
  | true=>
   rw [if_pos rfl,List.filter_cons,hc];simp only [Bool.not_true,Bool.false_eq_true,if_false];split
   ·rename_i h0;rw [fI t [],h0]
   ·rw [List.flatten_cons,fI t []];rfl
  | false=>
   rw [if_neg (by decide),fI t,List.filter_cons,hc];simp
theorem pX {s:ByteArray} (h:Cb s):((q01 s).map (·.data.toList)).flatten=ns s.data.toList:=by rw [jq,fI];show _=List.filter _ _;rw [List.nil_append];exact List.filter_congr fun c hc=>by rw [Pm h c hc]
theorem ES (l:List ByteArray) (F:List Int) (h:Mj l F) (hg:∀ x∈l,Good x.data.toList):(mZ l F).flatMap (fun x=>ns x.data.toList)=(l.map (·.data.toList)).flatten:=by
 have key:∀ (r:List Nat),(r.map (iZ l F)).flatMap (fun x=>ns x.data.toList)=((r.flatMap (pY l F)).map (·.data.toList)).flatten:=by
  intro r;induction r with
  | nil=>rfl
  | cons a r ih=>
   rw [List.map_cons,List.flatMap_cons,ih,List.flatMap_cons,List.map_append,List.flatten_append];congr 1;exact Pn (pY l F a) (fun x hx=>hg x (List.mem_of_mem_take (List.mem_of_mem_drop hx)))
 unfold mZ;rw [key];rcases Nat.eq_zero_or_pos l.length with h0 | h0
 ·have hl:l=[]:=List.length_eq_zero_iff.1 h0;have hF:F.length=0:=by have:=h.len;omega
  rw [hF,hl];rfl
 ·rw [ET l F h h0]
def gV (s:ByteArray) (W:Int):List ByteArray:=dM (kR s (Px.inner ⟨⟨#[]⟩,⟨#[]⟩⟩ W))
theorem sH (s:ByteArray):dL [iJ s]=s:=by unfold dL iJ;rw [ah.ay,ah.ay,ah.shown,List.append_nil,if_pos (.inl rfl)]
theorem LB {s:ByteArray} (h:Cb s) (W:Int):bV [iJ s] (Px.inner ⟨⟨#[]⟩,⟨#[]⟩⟩ W)=gV s W:=by unfold bV nV gV;rw [sH,ER h];show dM ([s].flatMap _)=_;rw [List.flatMap_cons,List.flatMap_nil,List.append_nil]
theorem yZ (l:List ByteArray):(dM l).flatMap (fun x=>ns x.data.toList)=l.flatMap (fun x=>ns x.data.toList):=by
 unfold dM;split
 ·rename_i h;rw [h];rfl
 ·rfl
theorem rO (W:Int) (h1:1<=W) (h:W<=1048576):Px.inner ⟨⟨#[]⟩,⟨#[]⟩⟩ W<=1048576:=by
 unfold Px.inner;have:cO (⟨#[]⟩:ByteArray)=0:=by decide +kernel
 simp only [this];omega
theorem Gs {s:ByteArray} (h:Cb s) (W:Int) (h1:1<=W) (h2:W<=1048576):(gV s W).flatMap (fun x=>ns x.data.toList)=ns s.data.toList:=by unfold gV kR;rw [yZ,ES _ _ (sF _ 30 _ (by omega) (rO W h1 h2)) (y7 s),pX h]
theorem zH (s:ByteArray) (W:Int) (h1:1<=W) (h2:W<=1048576):1<=(gV s W).length/\(gV s W).length<=s.size+1:=by
 have hf:=sF (q01 s) 30 (Px.inner ⟨⟨#[]⟩,⟨#[]⟩⟩ W) (by omega) (rO W h1 h2);have hl:=hf.len;have hw:(q01 s).length<=s.size+1:=by have:=jr s s.size 0 0 [];unfold q01 tQ;split<;>simp at this ⊢<;>omega
 have hc:(kR s (Px.inner ⟨⟨#[]⟩,⟨#[]⟩⟩ W)).length<=s.size+1:=by unfold kR;rw [EU];omega
 unfold gV dM;split
 ·exact ⟨by simp,by simp⟩
 ·rename_i hne
  exact ⟨Nat.pos_of_ne_zero (fun e=>hne (List.length_eq_zero_iff.1 e)),hc⟩
def keepW (n j:Nat):Bool:=decide (1<n)&&(decide (j=0)||decide (j+2=n))
def sG (s:ByteArray) (W:Int):List Bx:=(List.range (gV s W).length).map fun j=>Bx.new ((gV s W).getD j ⟨#[]⟩) 1 (keepW (gV s W).length j)
theorem BN (l:List Bx) (h:∀ y∈l,y.gr=0/\y.an=[]):jZ ⟨0,[],0,false,0⟩ l []=(l,⟨1,[],l.length,false,0⟩):=by
 have hs:∀ (r:List Bx),(∀ y∈r,y.gr=0/\y.an=[])->r.map (dI 0)=r:=by intro r hr;refine (List.map_congr_left (g:=id) fun y hy=>?_).trans (List.map_id _);obtain ⟨t,ht,g,k,f,an⟩:=y;have:=hr _ hy;simp at this;simp [dI,this.1]
 unfold jZ;rw [if_neg (by decide)];cases l with
 | nil=>rfl
 | cons x r=>
  have hx:=h x List.mem_cons_self;simp only;rw [hs r (fun y hy=>h y (List.mem_cons_of_mem _ hy))];obtain ⟨t,ht,g,k,f,an⟩:=x;simp at hx;simp [sD,hx.1,hx.2]
theorem Ho (s:ByteArray):bO ⟨⟨#[]⟩,[],[]⟩ [iJ s]=[]:=by unfold bO iJ;simp [zq,ah.aC,ah.deep,gK,ah.id1]
theorem lF {α:Type}:∀ (L:List (List α)) (x:List α),x∈L->x.length<=L.flatten.length
 | y::L,x,h=>by
  rw [List.flatten_cons,List.length_append];rcases List.mem_cons.1 h with rfl | h
  ·omega
  ·have:=lF L x h;omega
theorem Nv {s:ByteArray} (h:Cb s) (hs:s.size<=1000) (W:Int) (h1:1<=W) (h2:W<=1048576):eO [iJ s]=0/\iq W [lK s]=(sG s W,0):=by
 have hw:(q01 s).length<=s.size+1:=by have:=jr s s.size 0 0 [];unfold q01 tQ;split<;>simp at this ⊢<;>omega
 have hle:eO [iJ s]=0:=by
  unfold eO;rw [sH,ER h];have e:nT s=0:=by
   unfold nT;rw [if_neg];rintro (h3 | ⟨x,hx,h3⟩)
   ·omega
   ·have hz:x.size<=s.size:=by
     have h4:x.data.toList.length<=((q01 s).map (·.data.toList)).flatten.length:=by exact lF _ _ (List.mem_map_of_mem hx)
     rw [pX h] at h4;have h5:(ns s.data.toList).length<=s.data.toList.length:=List.length_filter_le _ _;have e1:x.data.toList.length=x.size:=Array.length_toList;have e2:s.data.toList.length=s.size:=Array.length_toList;omega
    have:=nP x;omega
  simp [nS,e]
 refine ⟨hle,?_⟩;have hn:=zH s W h1 h2;have hb:aj.iF W ⟨0,[],0,false,0⟩ ⟨⟨#[]⟩,⟨#[]⟩⟩ (lK s)=(sG s W,⟨1,[],(sG s W).length,false,0⟩):=by
  have hbl:iW ⟨⟨#[]⟩,⟨#[]⟩⟩ 1 (keepW (gV s W).length) (gV s W)=sG s W:=by
   unfold iW sG;refine List.map_congr_left fun i _=>?_
   unfold Px.text;have e:∀ x:ByteArray,(⟨#[]⟩:ByteArray)++x=x:=fun x=>by apply ByteArray.ext;simp [ByteArray.data_append]
   simp only [e,ite_self]
  unfold lK oK;rw [aj.iF,if_pos (.inl rfl),if_neg (by rw [hle];decide),Ho,LB h];have hk:(fun j=>decide ((1:Int)=2)||(decide (1<(gV s W).length)&&(decide (j=0)||decide (j+2=(gV s W).length))))=keepW (gV s W).length:=by
   funext j;simp [keepW]
  rw [hk,if_neg (by decide),hbl];exact BN _ (fun y hy=>by
   unfold sG at hy;obtain ⟨j,_,rfl⟩:=List.mem_map.1 hy;exact ⟨rfl,rfl⟩)
 have hl:(sG s W).length=(gV s W).length:=by simp [sG]
 have hlim:(⟨1,[],(sG s W).length,false,0⟩:St).lim=⟨1,[],(sG s W).length,false,0⟩:=by unfold St.lim;rw [if_neg (by simp only;omega)]
 have hm:aj.fA W ⟨0,[],0,false,0⟩ ⟨⟨#[]⟩,⟨#[]⟩⟩ [lK s]=(sG s W,⟨1,[],(sG s W).length,false,0⟩):=by rw [aj.fA,hb];simp only [hlim];simp [aj.fA,ahead]
 unfold iq;rw [hm];show (if (0:Nat)≠0 then _ else if 4096<(sG s W).length then _ else _)=_;rw [if_neg (by decide),if_neg (by omega)]
theorem Ky {s:ByteArray} (h:Cb s) (hne:dR s=false):dB (fun _=>true) [] [lK s]=0:=by
 have hl:=EW s (Lu h);have hall:aj.aY [lK s]=2:=by simp [lK,oK,iJ,aj.aY,aj.all,ah.aW,ah.sz]
 have ho:rF 0 true true 1 s ⟨#[]⟩ ⟨#[]⟩ ⟨⟨#[]⟩,[],[]⟩ [] [] []=0:=by unfold rF;rw [if_neg (by simp [zM,dR,At.none]),if_pos (.inl rfl),if_neg (by rw [hne,hl];decide),if_neg (by decide)]
 have hi:bE [iJ s]=0:=by unfold bE iJ;rw [ah.aN,if_neg (by decide),ah.err,show (decide ((0:Nat)=0)&&true)=true from rfl,show (decide ((0:Nat)=0)&&([]:List ah).isEmpty)=true from rfl,ho];simp [ah.aN]
 unfold dB;rw [if_neg (by rw [hall];simp),show bD [] []=0 from rfl,if_neg (by decide)];have hb:aj.err (fun _=>true) 0 0 (lK s)=0:=by
  unfold lK oK;rw [aj.err,if_neg (by decide),if_neg (by simp [D9,jf,dR,At.none])];have hits:dA (fun _=>true) 1 0 ⟨#[]⟩ ⟨#[]⟩ ⟨#[]⟩ ⟨#[]⟩ ⟨⟨#[]⟩,[],[]⟩ [iJ s] []=0:=by unfold dA;rw [if_pos rfl,if_neg (by simp),hi]
  rw [hits];simp [aj.aN]
 rw [aj.aN,hb];simp [aj.aN]
theorem Kz (s:ByteArray):(aj.aK [lK s]).any tK=false:=by simp [lK,oK,iJ,aj.aK,aj.inls,ah.aC,ah.deep,tK,Qu]
end Go.Proofs.YtnmldmofggkoeaaGreatDoor

