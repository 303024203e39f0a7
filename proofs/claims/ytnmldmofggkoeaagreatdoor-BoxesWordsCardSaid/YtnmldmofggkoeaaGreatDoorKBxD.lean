/- Contract of (*maker).items, where the blocks of each item have their contract. How much the boxes of blocks come to: plain bounds. Contracts of (*maker).block, kind by kind: quotes, lists, notes, and what has no boxes. -/
import Derived.Test.YtnmldmofggkoeaaGreatDoorKBxR
set_option maxHeartbeats 8000000
set_option maxRecDepth 100000
open Go.Lib (hid)
namespace Go.Proofs.YtnmldmofggkoeaaGreatDoor
open Go.RowKit.Below renaming refl->YH
open Nat renaming le_refl->YI,zero_le->YS
open List renaming length_map->YN
open Go.RowKit
set_option linter.unusedVariables false
set_option linter.unusedSimpArgs false
theorem C8 (n m:Nat) (h:n<10 ^ (m+1)):(Lib.decDigits n).length<=m+1:=by
 induction m generalizing n with
 | zero=>
  rw [Lib.decDigits,dif_pos (by simpa using h)];simp
 | succ m ih=>
  rw [Lib.decDigits];split
  ·simp
  ·rw [List.length_append,List.length_singleton];have:=ih (n/10) (by rw [Nat.pow_succ] at h;omega);omega
theorem MQ (n:Nat) (w:World) (hn:n<=2000000000) (ht:PT w) : Calls Tryz.prog 81 #[.int .i64 (n:Int)] w fun e w'=>e=.returned (.string (FW (n:Int)))/\Below w.heap.size w w':=by
 refine (Tryz.strconv_Itoa (n:Int) (by omega) (by omega) w ht.2).mono ?_;rintro e w' ⟨rfl,k,os,rfl⟩;refine ⟨?_,Lib.below_grow _ w (YI _) k os⟩;have:Lib.itoa (n:Int)=Lib.decDigits n:=by unfold Lib.itoa;rw [if_neg (by omega)];simp
 rw [this];rfl
theorem qU (n:Nat) (hn:n<=2000000000):(FW (n:Int)).size<=20:=by have h:=C8 n 9 (by omega);show (Lib.decDigits (n:Int).toNat).toArray.size<=20;rw [List.size_toArray,Int.toNat_natCast];omega
theorem xU (k lv:Int) (j:Nat) (hlv:k=8->0<=lv/\lv<=999999999) (hj:j<=1000000):(dV k lv j).size<=22:=by
 unfold dV;split
 ·rename_i h
  obtain ⟨n,hn⟩:∃ n:Nat,lv+(j:Int)=(n:Int):=⟨(lv+j).toNat,by have:=hlv h;omega⟩;rw [hn];have:=qU n (by have:=hlv h;omega);rw [ByteArray.size_append];show _+2<=22;omega
 ·show (2:Nat)<=22;omega
def Ig (W:Int) (x:aj):Prop:=∀ st q,aS x.lU st (aj.uM W st q x)
theorem nZ {W:Int} {st:St} {p:Px} {k lv:Int} {i:Nat} {x:aj} {l:List aj} (h:(x.uM W st (p.mark (dV k lv i))).2.err≠0):aj.mX W st p k lv i (x::l)=([],(x.uM W st (p.mark (dV k lv i))).2):=by rw [aj.mX];simp only [if_pos h]
theorem xV {W:Int} {st:St} {p:Px} {k lv:Int} {i:Nat} {x:aj} {l:List aj} (h:(x.uM W st (p.mark (dV k lv i))).2.err=0):aj.mX W st p k lv i (x::l)=ahead (x.uM W st (p.mark (dV k lv i))).1 (aj.mX W (x.uM W st (p.mark (dV k lv i))).2 p.next k lv (i+1) l):=by rw [aj.mX];simp only [if_neg (show ¬ (x.uM W st (p.mark (dV k lv i))).2.err≠0 from fun e=>e h)]
theorem FX (W:Int) (k lv:Int):∀ (l:List aj) (i:Nat) (st:St) (p:Px),(aj.mX W st p k lv i l).2.err≠0->(aj.mX W st p k lv i l).1=[]
 | [],i,st,p,_=>by rw [aj.mX]
 | x::l,i,st,p,h=>by
  by_cases h1:(x.uM W st (p.mark (dV k lv i))).2.err=0
  ·rw [xV h1] at h ⊢;unfold ahead at h ⊢;split
   ·rfl
   ·rename_i h2
    rw [if_neg h2] at h;exact absurd h h2
  ·rw [nZ h1]
theorem JI {W:Int} {p:Px} {k lv:Int} {l:List aj} {j:Nat} {y:aj} {s:St} {r:List Bx × St} (hy:l[j]?=some y) (hr:r=y.uM W s ((pfx p j).mark (dV k lv j))) (h:r.2.err=0):aj.mX W s (pfx p j) k lv j (l.drop j)=ahead r.1 (aj.mX W r.2 (pfx p (j+1)) k lv (j+1) (l.drop (j+1))):=by rw [drop_at hy,xV (by rw [<- hr];exact h),og,hr]
theorem C9 {W:Int} {p:Px} {k lv:Int} {l:List aj} {j:Nat} {y:aj} {s:St} {r:List Bx × St} (hy:l[j]?=some y) (hr:r=y.uM W s ((pfx p j).mark (dV k lv j))) (h:r.2.err≠0):aj.mX W s (pfx p j) k lv j (l.drop j)=([],r.2):=by rw [drop_at hy,nZ (by rw [<- hr];exact h),hr]
theorem AU (p:Px) (k:Nat) (m:ByteArray):((pfx p k).mark m).first.size<=(pfx p k).first.size+m.size/\((pfx p k).mark m).rest.size<=(pfx p k).rest.size+m.size:=by
 constructor
 ·show ((pfx p k).first++m).size<=_;rw [ByteArray.size_append];omega
 ·show ((pfx p k).rest++rW m.size).size<=_;rw [ByteArray.size_append,uF];omega
theorem AX (m:Nat) (W:Int) (w0:World) (kd lv:Int) (i t d ti:ByteArray) (at_:At) (li:List ah) (ks:List aj) (vc qo vl vk:Value) (hkd:kd=7\/kd=8) (hlv:kd=8->0<=lv/\lv<=999999999) (hR:xg (·<w0.heap.size) w0 at_ li ks vc qo vl vk) (hB:∀ x∈ks,iU m W w0 (Da x)) (hG:∀ x∈ks,Ig W x) (MR:kd=8->PT w0) (st:St) (vp:Value) (p:Px) (w:World) (hin:lV m W w0 st vp p (aj.bg ks) w) : Calls Tryz.prog 60 #[.pointer (some ⟨m,0,none⟩),.agg #[.int .i64 kd,.int .i64 lv,.string i,.string t,.string d,.string ti,.string at_.id,vc,qo,vl,vk],.agg #[.string p.first,.string p.rest]] w (bU m W w vp (aj.mX W st p kd lv 0 ks)):=by
 obtain ⟨iB,qA,Cx,Cy,Cz⟩:=info_parts xM;obtain ⟨ac,nc,cc,rfl⟩:=Rd.au hR.at_.cls
 obtain ⟨ap,np,cp,rfl⟩:=Rd.au hR.at_.aT
 obtain ⟨al,nl,cl,rfl⟩:=Rd.au hR.line;obtain ⟨ak,ck,hvk,hs⟩:=Rd.aD hR.kids;obtain ⟨nk,hnk⟩:∃ nk,nk=ks.length:=⟨_,rfl⟩;obtain rfl:vk=.slice ak nk ck:=by rw [hnk];simpa using hvk
 have hcap:nk<=ck:=by have:=hs.le;rw [YN] at this;omega
 have hmx:=hs.max;unfold maxLen at hmx;have hn1:nk<=1000000:=by have:=nG ks;have:=hin.fit.f;omega
 obtain ⟨S,hS⟩:∃ S,S=w.heap.size:=⟨_,rfl⟩;obtain ⟨wa,Db⟩:∃ wa,wa=w.alloc (.cells #[.int .i64 kd,.int .i64 lv,.string i,.string t,.string d,.string ti,.string at_.id,.slice ac nc cc,.slice ap np cp,.slice al nl cl,.slice ak nk ck] 47):=⟨_,rfl⟩;obtain ⟨w1,hw1⟩:∃ w1,w1=wa.alloc (.cells #[.string p.first,.string p.rest] 66):=⟨_,rfl⟩;have za:wa.heap.size=S+1:=by rw [Db,hS];simp
 have kb:CB 47 S [.int .i64 kd,.int .i64 lv,.string i,.string t,.string d,.string ti,.string at_.id,.slice ac nc cc,.slice ap np cp,.slice al nl cl,.slice ak nk ck] w1:=by rw [hw1];refine CB.below ?_ ((YH _ _).alloc (YI _) _);rw [Db,hS];exact CB.new _ _ _
 have kp:CB 66 (S+1) [.string p.first,.string p.rest] w1:=by rw [hw1,<- za];exact CB.new _ _ _
 have b1:Below w.heap.size w w1:=by rw [hw1,Db];exact ((YH _ _).alloc (YI _) _).alloc (by simp) _
 have z1:w1.heap.size=S+2:=by rw [hw1];simp [za]
 have kS:=hin.uN.own;have Ih:m<S:=by rw [hS];exact hin.uN.cb.lt
 have R0:Hid (AY m W (aj.mX W st p kd lv 0 ks) (fun j s=>aj.mX W s (pfx p j) kd lv j (ks.drop j)) (fun j=>aj.bg (ks.drop j)) st vp p (S+1) (S+2) S [.int .i64 kd,.int .i64 lv,.string i,.string t,.string d,.string ti,.string at_.id,.slice ac nc cc,.slice ap np cp,.slice al nl cl,.slice ak nk ck] nk w (.slice none 0 0) (.int .i64 0) w1):=⟨0,st,vp,[],[],p,rfl,YS _,(qV _ (FX _ _ _ _ _ _ _)).symm,.inl ⟨rfl,rfl,rfl⟩,(aI.nil _ _ _ (by omega)).top,hin.uN.below b1,.inl rfl,aO.of_below b1 _,hin.fit,by have:=hin.fit.f;simp;omega,kp,⟨rfl,fun _=>rfl⟩,.inr ⟨by omega,by omega,kb⟩⟩;have uO:=hid hin;have HS:=hid hS;have HN:=hid hnk;have HSL:=hid hs;have Q9:=hid hB;have Ra:=hid hG;have zx:=hid Ih;have Ca:=hid (fun (b:Nat) (e:vp.ownBlock=some b)=>(by rw [hS];exact kS.lt b e:m<=b/\b<S));have AZ:vp.ownBlock≠some m:=bR kS hin.uN.cb (by decide);have PO:=hid AZ;have X8:=hid kb;have B1:=hid b1;have MS:=hid (And.intro hlv MR);have d0:=kb.cell 0 _ rfl;have d10:=kb.cell 10 _ rfl;clear hR hvk hs hnk hB hG hin b1 kS Ih z1 AZ kb kp hlv MR;go_enter Tryz.func60,Tryz.ntmps60;go_upto_region 1 with (fail)
 rw [<- Db,<- hS];try rw [za]
 rw [<- hw1];clear Db hw1 hS za;go_wp2
 go_loopw [7,16] (fun v vi wr=>AY m W (aj.mX W st p kd lv 0 ks) (fun j s=>aj.mX W s (pfx p j) kd lv j (ks.drop j)) (fun j=>aj.bg (ks.drop j)) st vp p (S+1) (S+2) S [.int .i64 kd,.int .i64 lv,.string i,.string t,.string d,.string ti,.string at_.id,.slice ac nc cc,.slice ap np cp,.slice al nl cl,.slice ak nk ck] nk w v vi wr) (fun _ vi _=>nk-(intOf vi).toNat)
 case atStart=>exact R0.out
 case round=>
  clear R0 d0 d10;obtain ⟨j,st',eB,acc,rows,pb,rfl,hkn,hr⟩:=hrel;have hb0:Below w0.heap.size w0 wr:=uO.out.xW hr.fr (fun b e=>by
   rcases e with e | e
   ·omega
   ·exact (Ca.out b e).1)
  by_cases hlt:j<nk
  ·obtain ⟨y,hy⟩:∃ y,ks[j]?=some y:=⟨_,List.getElem?_eq_getElem (by have:=HN.out;omega)⟩;have MU:=Q9.out y (List.mem_of_getElem? hy);have MV:=Ra.out y (List.mem_of_getElem? hy) st' ((pfx p j).mark (dV kd lv j));have hvd:=qW ks j y hy;obtain ⟨yk,Dc,yi,yt,yd,zy,zB,JJ,xX⟩:=y;obtain ⟨ga,off,vc,qo,vl,vk,rfl,hok,hbl,hc,hR⟩:=jG HSL.out hy;obtain ⟨c0,c1,c2,c3,c4,c5,c6,c7,c8,c9,c10⟩:=hc.at2 (w':=wr) (hb0.block ga hok);obtain ⟨JK,JL,JM,rfl⟩:=Rd.au hR.at_.cls
   obtain ⟨JN,JO,JQ,rfl⟩:=Rd.au hR.at_.aT
   obtain ⟨JR,JU,JV,rfl⟩:=Rd.au hR.line;obtain ⟨FY,FZ,hyk,-⟩:=Rd.aD hR.kids;obtain ⟨xk,JW⟩:∃ xk,xk=xX.length:=⟨_,rfl⟩;obtain rfl:vk=.slice FY xk FZ:=by rw [JW];simpa using hyk
   obtain ⟨q,hq⟩:∃ q,q=wr.heap.size:=⟨_,rfl⟩;obtain ⟨wq,hwq⟩:∃ wq,wq=wr.alloc (.cells #[.int .i64 yk,.int .i64 Dc,.string yi,.string yt,.string yd,.string zy,.string zB.id,.slice JK JL JM,.slice JN JO JQ,.slice JR JU JV,.slice FY xk FZ] 47):=⟨_,rfl⟩;have kq:CB 47 q [.int .i64 yk,.int .i64 Dc,.string yi,.string yt,.string yd,.string zy,.string zB.id,.slice JK JL JM,.slice JN JO JQ,.slice JR JU JV,.slice FY xk FZ] wq:=by rw [hwq,hq];exact CB.new _ _ _
   have bq:Below wr.heap.size wr wq:=by rw [hwq];exact (YH _ _).alloc (YI _) _
   have hSw:S+1<wr.heap.size:=hr.box.lt;have JX:S+1≠q:=by omega
   have kb:=hr.box.below bq;have kB:=(hr.TA.resolve_left (by omega)).2.2.below bq;obtain ⟨av,cv,hv⟩:=lI hr.row.own;obtain ⟨na,hna⟩:∃ na,na=(acc.map Bx.d).length:=⟨_,rfl⟩;rw [<- hna] at hv;subst hv;have Fw:=hid hna.symm;have HR:=hid hr;have HY:=hid hy;have Rb:=hid MU;have MW:=hid MV;have JY:=hid hvd;have Rc:=hid hR;have KQ:=hid kq;have BQ:=hid bq;have KB:=hid kb;have HB0:=hid hb0;have TD:=hid JW;have MN:na<=1000000:=by have:=hr.len;rw [hna,YN];omega
   have Ii:=hid hr.Rf;have LW:=hid kB;have TF:=hid (And.intro hSw JX);have JZ:=hid (xU kd lv j MS.out.1 (by omega));obtain ⟨mk,hmk⟩:∃ mk,mk=dV kd lv j:=⟨_,rfl⟩;rw [<- hmk] at JZ MW;have PS:=hid hmk;have b0:=kB.cell 0 _ rfl;have b1':=kB.cell 1 _ rfl;have VX:Hid (Below w0.heap.size w0 wq):=aM hb0 bq;clear hok hbl hc hR hy MU MV hvd kq bq kb hb0 hr hna hSw kB hyk JW hmk;rcases hkd with rfl | rfl
   case' inl=>
    have MX:Hid (mk=⟨#[45,32]⟩):=by have h:=PS.out;show mk=_;rw [h];rfl
    go_upto_region 5 with (fail)
    rw [<- hwq,<- hq];clear hwq hq c0 c1 c2 c3 c4 c5 c6 c7 c8 c9 c10;go_upto_region 8 with (fail)
    rw [<- MX.out];obtain ⟨wm,Ij⟩:∃ wm:World,wm=wq:=⟨_,rfl⟩;have BM:Hid (Below wq.heap.size wq wm):=by rw [Ij];exact YH _ _
    rw [<- Ij];clear Ij MX b0 b1'
   case' inr=>
    have VY:=MS.out.1 rfl;obtain ⟨hl0,hl1⟩:=VY;obtain ⟨ds,hds⟩:∃ ds,ds=FW (lv+(j:Int)):=⟨_,rfl⟩;have hdz:ds.size<=20:=by rw [hds,show lv+(j:Int)=(((lv+j).toNat:Nat):Int) from by omega];exact qU _ (by omega)
    have IT:=MQ (lv+j).toNat wq (by omega) ((MS.out.2 rfl).below VX.out);rw [show (((lv+j).toNat:Nat):Int)=lv+(j:Int) from by omega,<- hds] at IT;have TG:=hid IT;have MZ:Hid (mk=ds++⟨#[46,32]⟩):=by have h:=PS.out;show mk=_;rw [h,hds];rfl
    clear IT hds;go_upto_region 5 with (fail)
    rw [<- hwq,<- hq];clear hwq hq c0 c1 c2 c3 c4 c5 c6 c7 c8 c9 c10;go_wp2_with fail
    (with_reducible refine TG.out.mono ?_)
    rintro e wm ⟨rfl,bm⟩;have BM:=hid bm;clear bm TG;go_upto_region 8 with (fail)
    rw [<- MZ.out];clear MZ hdz b0 b1' hl0 hl1
   all_goals
    have kq:=KQ.out.below BM.out;have kp:=KB.out.below BM.out;rcases Nat.eq_zero_or_pos j with hj0 | hj0
    case' inl=>
     have hpe:Hid (pfx p j=p):=by show _=_;unfold pfx;rw [if_pos hj0]
     have q0:decide ((0:Int)<(j:Int))=false:=by simp;omega
     have J2:decide (0<j)=false:=by simp;omega
     have F4:Hid (pb=p):=Ii.out.2 hj0;clear hj0;go_upto_region 10 with (fail)
     obtain ⟨ws,hws⟩:∃ ws:World,ws=wm:=⟨_,rfl⟩;have KA:Hid (CB 66 (S+1) [.string (pfx p j).first,.string (pfx p j).rest] ws):=by have h:=kp;rw [F4.out,<- hws] at h;rw [hpe.out];exact h
     have FS:Hid (aO (fun b=>b=S+1) wm ws):=by rw [hws];exact aO.refl _ _
     rw [<- hws];clear hws q0 J2 F4 hpe
    case' inr=>
     have hpe:Hid (pfx p j=p.next):=by show _=_;unfold pfx;rw [if_neg (by omega)]
     have q0:decide ((0:Int)<(j:Int))=true:=by simp;omega
     have J2:decide (0<j)=true:=by simpa using hj0
     have e0:=kp.cell 0 _ rfl;have e1:=kp.cell 1 _ rfl;have ef:=rX kp;clear hj0;go_upto_region 10 with (fail)
     obtain ⟨ws,hws⟩:∃ ws:World,ws=wm.setCell ⟨S+1,0,none⟩ (.string pb.rest):=⟨_,rfl⟩;have KA:Hid (CB 66 (S+1) [.string (pfx p j).first,.string (pfx p j).rest] ws):=by have h:=qN kp 0 (.string pb.rest);rw [<- hws] at h;rw [hpe.out];show CB _ (S+1) [.string p.rest,.string p.rest] ws;rw [<- Ii.out.1];exact h
     have FS:Hid (aO (fun b=>b=S+1) wm ws):=by rw [hws];exact aO.set wm (S+1) 0 _
     rw [<- hws];clear hws q0 J2 hpe e0 e1 ef
    all_goals
     have TH:=kq.fr FS.out (fun e=>TF.out.2 e.symm);have p0:=KA.out.cell 0 _ rfl;have p1:=KA.out.cell 1 _ rfl;have Mx:=HR.out.fit;have hf1:=Mx.f;have hf2:=Mx.r;have MC:=hid (xL (pfx p j) mk ws (by omega) (by omega) (by have:=JZ.out;omega));have hmn:=AU p j mk;obtain ⟨Q,hQ⟩:∃ Q,Q=(pfx p j).mark mk:=⟨_,rfl⟩;rw [<- hQ] at MC MW hmn;have HQ:=hid hQ;have VZ:(aj.mk yk Dc yi yt yd zy zB JJ xX).lU=30+yi.size+2*yt.size+2*(ah.ay JJ).length+(gK (ah.aC JJ)).length+aj.bg xX:=by rw [aj.lU]
     have Ik:Fits (aj.bg xX) st' Q:=by have h1:=Mx.mono (n':=30+aj.bg xX) (by show _<=aj.bg (ks.drop j);have:=JY.out;omega);obtain ⟨x1,x2,x3,x4,x5⟩:=h1;have:=JZ.out;exact ⟨by omega,by omega,by omega,by omega,by omega⟩
     have LX:=hid Ik;clear hQ Mx hf1 hf2 hmn VZ Ik kq kp;go_wp2_with fail
     (with_reducible refine MC.out.mono ?_)
     rintro e w4 ⟨rfl,b4⟩;obtain ⟨q2,hq2⟩:∃ q2,q2=w4.heap.size:=⟨_,rfl⟩;obtain ⟨wA,iV⟩:∃ wA,wA=w4.alloc (.cells #[.string Q.first,.string Q.rest] 66):=⟨_,rfl⟩;have bA:Below w4.heap.size w4 wA:=by rw [iV];exact (YH _ _).alloc (YI _) _
     have TI:Hid (CB 66 q2 [.string Q.first,.string Q.rest] wA):=by rw [iV,hq2];exact CB.new _ _ _
     have zC:=hid ((TH.below b4).below bA);have V3:=hid ((KA.out.below b4).below bA);have FA:Hid (aO (fun b=>b=S+1) wr wA):=(((aO.of_below (aM BQ.out BM.out) (fun b=>b=S+1)).trans FS.out (fun b _ e=>e)).trans (aO.of_below (aM b4 bA) (fun _=>False)) (fun _ _ e=>e.elim));clear bA b4 MC TH p0 p1 KA FS;go_upto_region 11 with (fail)
     rw [<- iV,<- hq2];have e10:=zC.out.cell 10 _ rfl;have g0:=TI.out.cell 0 _ rfl;have g1:=TI.out.cell 1 _ rfl;clear iV hq2;obtain ⟨r,hrr⟩:∃ r,r=aj.uM W st' Q (aj.mk yk Dc yi yt yd zy zB JJ xX):=⟨_,rfl⟩;have HG:=hid (MW.out);rw [<- hrr] at HG;have HRR:=hid hrr;clear hrr;have Rh:Hid (Below w0.heap.size w0 wA):=HB0.out.trans (FA.out.below _ HB0.out.size (fun b e=>by have:=zx.out;have:=uO.out.m0;have e1:b=S+1:=e;omega));have A8:Hid (nQ m W st' eB wA):=HR.out.nD.fr FA.out (fun e=>by have:=zx.out;have e1:m=S+1:=e;omega) (fun b e e'=>by
      have e1:b=S+1:=e';rcases HR.out.Df with h | h
      ·rw [h] at e;have:=(Ca.out b e).2;omega
      ·rw [h] at e;simp [Value.ownBlock] at e)
     rcases Nat.eq_zero_or_pos xk with hkz | hkz
     case' inl=>
      have q1:decide ((0:Int)<(xk:Int))=false:=by simp;omega
      have q1':decide (0<xk)=false:=by simp;omega
      have Dh:xX=[]:=List.length_eq_zero_iff.1 (by have:=TD.out;omega);have tX:Hid (r=jZ st' ([]++[Bx.new (Q.text ([]:List Bx).length ⟨#[]⟩) 1 false]) []):=by have h:=HRR.out;rw [Dh,aj.uM,if_pos rfl] at h;show r=_;rw [h];rfl
      obtain ⟨q3,hq3⟩:∃ q3,q3=wA.heap.size:=⟨_,rfl⟩;obtain ⟨wL,PV⟩:∃ wL,wL=wA.alloc (.cells #[.string Q.first,.string Q.rest,.slice none 0 0] 99):=⟨_,rfl⟩;have bL:Below wA.heap.size wA wL:=by rw [PV];exact (YH _ _).alloc (YI _) _
      have kl:CB 99 q3 [.string Q.first,.string Q.rest,.slice none 0 0] wL:=by rw [PV,hq3];exact CB.new _ _ _
      have A1:=hid (jC q3 Q [] (.slice none 0 0) wL.heap.size wL.heap.size ⟨#[]⟩ 1 false wL (by have:=LX.out.f;omega) (by have:=LX.out.r;omega) (by show (0:Nat)<=_;omega) (by simp) kl kl.lt (aI.nil _ _ _ (YI _)));have BL:=hid bL;have Di:=hid hq3;clear hkz Dh bL kl;go_upto_region 14 with (fail)
      rw [<- PV,<- hq3];clear PV hq3 q1 q1';go_wp2_with fail
      (with_reducible refine A1.out.mono ?_)
      rintro e wB ⟨rfl,vB,M0,zD,J3⟩;obtain ⟨LL,kI⟩:∃ LL,LL=[]++[Bx.new (Q.text ([]:List Bx).length ⟨#[]⟩) 1 false]:=⟨_,rfl⟩;rw [<- kI] at zD tX;have TJ:nQ m W st' eB wB:=(A8.out.below BL.out).fr J3 (fun e=>by
       rcases e with e | e
       ·have:=A8.out.cb.lt;have:=Di.out;omega
       ·simp [Value.ownBlock] at e) (fun g e e'=>by
       rcases e' with e' | e'
       ·have:=(A8.out.own.lt g e).2;have:=Di.out;omega
       ·simp [Value.ownBlock] at e')
      have FB:aO (fun b=>b=m\/eB.ownBlock=some b) wA wB:=(aO.of_below BL.out _).trans J3 (fun b hb e=>by
       rcases e with e | e
       ·have:=Di.out;omega
       ·simp [Value.ownBlock] at e)
      have LF:=hid (uP m W st' eB wL.heap.size wB.heap.size vB (.slice none 0 0) LL [] (fun _=>False) wB TJ (by rw [kI];simp) zD (by rw [kI];intro y hy;simp at hy;rw [hy];rfl) (Rd.aJ _ _ _) (fun _ h=>h.elim) (by have:=LX.out.g;omega) (by have:=LX.out.c;omega) (by rw [kI];simp) (by have:=LX.out.p;simp;omega) (by have:=A8.out.cb.lt;have:=BL.out.size;omega) (fun b e=>by have:=(A8.out.own.lt b e).2;have:=BL.out.size;omega));have b2:=M0.cell 2 _ rfl;obtain ⟨aB,cB,hvB⟩:=lI zD.own;have hlB:(LL.map Bx.d).length=1:=by rw [kI];rfl
      rw [hlB] at hvB;subst hvB;have TK:=hid FB;have TL:=hid BL.out.size;clear kI TJ FB zD J3 M0 A1 BL hlB;go_wp2_with fail
      (with_reducible refine LF.out.mono ?_)
      rintro e w5 hlp;have TM:=bU.of hlp TK.out TL.out;rw [<- tX.out] at TM;obtain ⟨v5,qX,lW,rfl,dW,hmk5,sw,hown5,lX⟩:=TM;clear hlp LF tX TK TL b2
     case' inr=>
      have q1:decide ((0:Int)<(xk:Int))=true:=by simp;omega
      have q1':decide (0<xk)=true:=by simpa using hkz
      have Dh:xX≠[]:=fun e=>by have:=TD.out;rw [e] at this;simp at this;omega
      have tX:Hid (r=aj.fA W st' Q xX):=by have h:=HRR.out;rw [aj.uM,if_neg Dh] at h;exact h
      have BC:=hid (Rb.out (.slice FY xk FZ) Rc.out.kids st' eB Q wA ⟨uO.out.m0,Rh.out,A8.out,uO.out.wd,LX.out,uO.out.tab,uO.out.ml⟩);unfold Da at BC;rw [<- tX.out] at BC;clear hkz Dh tX;go_wp2_with fail
      (with_reducible refine BC.out.mono ?_)
      rintro e w5 ⟨v5,qX,lW,rfl,dW,hmk5,sw,hown5,lX⟩;clear BC q1 q1'
     all_goals
      obtain ⟨n5,uQ⟩:∃ n5,n5=(r.1.map Bx.d).length:=⟨_,rfl⟩;have M4:na+n5<=1000000:=by have h1:=HG.out.len;have h2:=HR.out.len;have h3:=JY.out;have h4:=Fw.out;rw [YN] at h4 uQ;omega
      obtain ⟨a5,c5,hv5⟩:=lI dW.own;rw [<- uQ] at hv5;have J4:wr.heap.size<=w5.heap.size:=Nat.le_trans FA.out.size lX.size;have J5:∀ b,b=S+1->w.heap.size<=b/\b<S+2:=fun b e=>by have:=HS.out;omega
      have hpw:∀ b,vp.ownBlock=some b->b<w.heap.size:=fun b e=>by have:=(Ca.out b e).2;have:=HS.out;omega
      have hmw:m<w.heap.size:=by have:=zx.out;have:=HS.out;omega
      have BZ:w.heap.size<=S+2:=by have:=HS.out;omega
      have uR:=HR.out.Il (r:=r) hmw hpw PO.out BZ FA.out J5 lX sw;have M5:Rd (fun b=>(vp.ownBlock=some b/\(r.2.err=0->lW.ownBlock≠some b))\/wr.heap.size<=b) w5 (.sl 6 (r.1.map Bx.d)) [v5]:=by
       have h:=dW.2.rd;rw [dW.sz] at h;refine h.weaken (fun b hb=>hb.imp (fun h=>⟨?_,fun _=>h.2⟩) (fun h=>Nat.le_trans FA.out.size h));rcases HR.out.Df with h' | h'
       ·rw [h'] at h;exact h.1
       ·rw [h'] at h;simp [Value.ownBlock] at h
      have J6:=hid uR;have Ri:=hid M5;have J7:=hid hmk5;have HV5:=hid (And.intro sw hown5);have F5:=hid lX;have J8:=hid uQ.symm;have zF:Hid (∀ b,(vp.ownBlock=some b/\(r.2.err=0->lW.ownBlock≠some b))->b<(qB (S+2) w5).heap.size):=fun b h=>by
       rw [FP (by have:=HR.out.row.1;omega)];have:=(Ca.out b h.1).2;omega
      have HW:=hid (And.intro hmw (And.intro hpw (And.intro BZ (And.intro (show w.heap.size<=S+1/\S+1<S+2 by have:=HS.out;omega) J5))));clear dW hmk5 sw hown5 lX uQ J4 uR M5 J5 hpw hmw BZ e10 g0 g1;subst hv5;go_wp2_with (at_builtin;refine mG (T:=37) (k:=6) rfl _ _ 22 rfl iB _ 64 Tryz.underlying22 qA Cx Cy Cz rfl (by decide) J6.out.2 zF.out _ Ri.out (fun rs ok h=>zo r.1 rs ok w5 h) Fw.out J8.out (by omega) (by decide) rfl rfl ?_)
      intro a6 c6 qY w6 uS xq;have hkv:(Value.slice av na cv).ownBlock≠some m/\∀ g,lW.ownBlock=some g->(Value.slice av na cv).ownBlock≠some g:=⟨fun e=>by have:=(J6.out.own.lt m e).1;have:=zx.out;omega,fun g e=>nE J7.out.own J6.out.own (by decide) g e⟩;have F6:=J7.out.fr (aO.grown xq) hkv.1 (fun g e e'=>hkv.2 g e e');have M6:=HR.out.frame HW.out.2.2.1 FA.out (fun b e=>(HW.out.2.2.2.2 b e).1) F5.out xq;have f5:=F6.cb.cell 5 _ rfl;have J9:=hid F6;have PW:=hid M6;have Rj:=hid uS;have Rk:=hid xq;have PX:=hid FA.out.size;clear uS xq hkv F6 M6;by_cases he:r.2.err=0
      case' pos=>
       have q2:(((r.2.err:Nat):Int)==0)=true:=by rw [he];rfl
       have M7:=HR.out.next (r:=r) HW.out.1 HW.out.2.1 HW.out.2.2.1 HW.out.2.2.2.1 FA.out HW.out.2.2.2.2 (.inr (by omega)) HG.out (by show _+aj.bg (ks.drop (j+1))<=aj.bg (ks.drop j);have:=JY.out;omega) (JI HY.out (by rw [HRR.out,HQ.out,PS.out]) he) he V3.out J7.out HV5.out.1 F5.out Rk.out Rj.out
       have HF:=hid (show AY m W (aj.mX W st p _ lv 0 ks) (fun j s=>aj.mX W s (pfx p j) _ lv j (ks.drop j)) (fun j=>aj.bg (ks.drop j)) st vp p (S+1) (S+2) S _ nk w (.slice a6 (na+n5) c6) (.int .i64 ((j+1:Nat):Int)) w6 from ⟨j+1,_,lW,_,qY,pfx p j,rfl,by omega,M7⟩);clear M7 he;go_wp2;go_roundw;case rel=>exact HF.out
       case measure=>simp [intOf];omega
      case' neg=>
       have q2:(((r.2.err:Nat):Int)==0)=false:=by simp;omega
       have HP:=hid (HR.out.stop (s':=r.2) (w7:=w6) PX.out (C9 HY.out (by rw [HRR.out,HQ.out,PS.out]) he) he J9.out HV5.out.2 PW.out);clear he;go_wp2;go_ret;exact HP.out
  ·have hkl:j=ks.length:=by have:=HN.out;omega
   have HP:=hid (hr.done (by have:=HS.out;omega) (by show aj.mX W st' (pfx p j) kd lv j (ks.drop j)=_;rw [hkl,List.drop_length,aj.mX]));obtain ⟨av,cv,hv⟩:=lI hr.row.own;subst hv;clear hkl hr hb0;go_wp2;go_ret;exact HP.out
open Go.RowKit
theorem aS.mono {n n':Nat} {st:St} {r:List Bx × St} (h:aS n st r) (hn:n<=n'):aS n' st r:=⟨h.xu.mono hn,Nat.le_trans h.len hn,h.err⟩
theorem aS.nil (n:Nat) (st:St):aS n st ([],st):=⟨dP.refl _ _,YS _,fun _ _=>rfl⟩
theorem aS.leaf (st:St) (L:List Bx) (own:List ByteArray) (n:Nat) (h1:1<=n) (h2:L.length<=n):aS n st (jZ st L own):=by obtain ⟨h3,h4⟩:=gU st L own n h1 h2;exact ⟨h3,by omega,fun e e0=>absurd e0 (by rw [jH] at e;exact e)⟩
theorem aS.Dj {n n':Nat} {st s1:St} {a:List Bx} {r:List Bx × St} (h1:dP n st s1) (hl:a.length<=n) (h2:aS n' s1 r):aS (n+n') st (ahead a r):=by
 unfold ahead;split
 ·exact ⟨h1.trans h2.xu,YS _,fun _ _=>rfl⟩
 ·rename_i h
  refine ⟨h1.trans h2.xu,?_,fun e=>absurd e h⟩;have:=h2.len;rw [List.length_append];omega
theorem jI (p:Px) (h:Int) (keep:Nat->Bool) (ts:List ByteArray):(iW p h keep ts).length=ts.length:=by simp [iW]
theorem dP.uT {n:Nat} {a b:St} (h:dP n a b):dP n a b.lim:=by have:=h.trans (Dk b);simpa using this
theorem dP.Ka (n:Nat) (st:St) (e:Nat):dP n st { st with err:=e }:=⟨by simp,by simp,by simp,rfl⟩
theorem aS.table (st:St) (p:Px) (ks:List aj) (n:Nat) (h1:1<=n) (h2:ks.length<=n):aS n st (xY st p ks):=by
 obtain ⟨h3,h4⟩:=gU st (iW p 1 (fun i=>decide (i=0)&&decide (1<ks.length)) (ks.map Kc)) [] n h1 (by rw [jI];simpa using h2);have h5:=jH st (iW p 1 (fun i=>decide (i=0)&&decide (1<ks.length)) (ks.map Kc)) [];rw [jI,YN] at h4;unfold xY;by_cases hf:st.lH=true
 ·simp only [if_pos hf];exact ⟨h3,by omega,fun e e0=>absurd e0 (by rw [h5] at e;exact e)⟩
 ·simp only [if_neg hf];refine ⟨h3,?_,fun e e0=>absurd e0 (by simp only [h5] at e;exact e)⟩;simp only [Im,YN,List.length_zip];omega
mutual
theorem oh (W:Int) (hW:1<=W/\W<=1048576):∀ (x:aj) (st:St) (p:Px),aS x.lU st (aj.iF W st p x)
 | .mk k lv i t d ti a li ks,st,p=>by
  have hv:(aj.mk k lv i t d ti a li ks).lU=30+i.size+2*t.size+2*(ah.ay li).length+(gK (ah.aC li)).length+aj.bg ks:=by rw [aj.lU]
  rw [aj.iF,hv];split
  ·split
   ·exact ⟨dP.Ka _ _ _,YS _,fun _ _=>rfl⟩
   ·have:=(om li p W hW).1;exact aS.leaf _ _ _ _ (by omega) (by rw [jI];omega)
  ·split
   ·refine aS.leaf _ _ _ _ (by omega) ?_;rw [jI];have h1:=kQ (iG t);have h2:=eP t;omega
   ·split
    ·exact aS.leaf _ _ _ _ (by omega) (by simp;omega)
    ·split
     ·exact aS.table _ _ _ _ (by omega) (by have:=nG ks;omega)
     ·split
      ·exact (oo W hW ks st _).mono (by omega)
      ·split
       ·exact (Io W hW ks st p k lv 0).mono (by omega)
       ·split
        ·split
         ·have h:=oo W hW ks { st with lH:=true } p;simp only;split
          ·exact ⟨⟨by have:=h.xu.g;simp only at this ⊢;omega,by have:=h.xu.c;simp only at this ⊢;omega,by have:=h.xu.p;simp only at this ⊢;omega,rfl⟩,YS _,fun _ _=>rfl⟩
          ·rename_i he
           have h2:dP (aj.bg ks) st { (aj.fA W { st with lH:=true } p ks).2 with lH:=st.lH }:=⟨by have:=h.xu.g;simp only at this ⊢;omega,by have:=h.xu.c;simp only at this ⊢;omega,by have:=h.xu.p;simp only at this ⊢;omega,rfl⟩;have h3:=gU { (aj.fA W { st with lH:=true } p ks).2 with lH:=st.lH } [M8 p (aj.fA W { st with lH:=true } p ks).1] (bO a li++aj.F7 ks) 1 (by omega) (by simp);refine ⟨(h2.trans h3.1).mono (by omega),by rw [h3.2];simp;omega,fun e _=>?_⟩;rw [jH] at e;exact absurd e he
         ·have key:∀ s0:St,dP 1 st s0->(st.err=0->s0.err=0)->aS (30+i.size+2*t.size+2*(ah.ay li).length+(gK (ah.aC li)).length+aj.bg ks) st (if (aj.fA W s0 p ks).1≠[]\/a.id.data.toList=[]\/(aj.fA W s0 p ks).2.err≠0 then aj.fA W s0 p ks else jZ (aj.fA W s0 p ks).2 [Bx.new (p.first++⟨#[]⟩) 1 false] []):=by
           intro s0 h0 he0;have h:=oo W hW ks s0 p;split
           ·exact ⟨(h0.trans h.xu).mono (by omega),by have:=h.len;omega,fun e e0=>h.err e (he0 e0)⟩
           ·rename_i hn
            have h3:=gU (aj.fA W s0 p ks).2 [Bx.new (p.first++⟨#[]⟩) 1 false] [] 1 (by omega) (by simp);refine ⟨((h0.trans h.xu).trans h3.1).mono (by omega),by rw [h3.2];simp;omega,fun e _=>?_⟩;rw [jH] at e;exact absurd (.inr (.inr e)) hn
          refine key _ ?_ ?_
          ·split
           ·exact ⟨by simp,by simp,by simp,rfl⟩
           ·exact dP.refl _ _
          ·intro e;split<;>exact e
        ·split
         ·exact (oo W hW ks st _).mono (by omega)
         ·exact aS.nil _ _
theorem oo (W:Int) (hW:1<=W/\W<=1048576):∀ (l:List aj) (st:St) (p:Px),aS (aj.bg l) st (aj.fA W st p l)
 | [],st,p=>by rw [aj.fA];exact aS.nil _ _
 | x::l,st,p=>by
  have h:=oh W hW x st p;rw [jJ];by_cases he:(x.iF W st p).2.lim.err=0
  ·rw [xZ he];exact aS.Dj h.xu.uT h.len (oo W hW l _ _)
  ·rw [oq he];exact ⟨h.xu.uT.mono (by omega),YS _,fun _ _=>rfl⟩
theorem Io (W:Int) (hW:1<=W/\W<=1048576):∀ (l:List aj) (st:St) (p:Px) (k lv:Int) (i:Nat),aS (aj.bg l) st (aj.mX W st p k lv i l)
 | [],st,p,k,lv,i=>by rw [aj.mX];exact aS.nil _ _
 | x::l,st,p,k,lv,i=>by
  have h:=Ip W hW x st (p.mark (dV k lv i));rw [jJ];by_cases he:(x.uM W st (p.mark (dV k lv i))).2.err=0
  ·rw [xV he];exact aS.Dj h.xu h.len (Io W hW l _ _ _ _ _)
  ·rw [nZ he];exact ⟨h.xu.mono (by omega),YS _,fun _ _=>rfl⟩
theorem Ip (W:Int) (hW:1<=W/\W<=1048576):∀ (x:aj) (st:St) (q:Px),aS x.lU st (aj.uM W st q x)
 | .mk k lv i t d ti a li ks,st,q=>by
  have hv:(aj.mk k lv i t d ti a li ks).lU=30+i.size+2*t.size+2*(ah.ay li).length+(gK (ah.aC li)).length+aj.bg ks:=by rw [aj.lU]
  rw [aj.uM,hv];split
  ·exact aS.leaf _ _ _ _ (by omega) (by simp;omega)
  ·exact (oo W hW ks st q).mono (by omega)
end
open Go.RowKit
theorem A9 (m:Nat) (W:Int) (w0:World) (st:St) (vp:Value) (p:Px) (lv:Int) (i t d ti:ByteArray) (at_:At) (li:List ah) (ks:List aj) (vc qo vl vk:Value) (w:World) (hin:lV m W w0 st vp p (aj.mk 6 lv i t d ti at_ li ks).lU w) (hR:xg (·<w0.heap.size) w0 at_ li ks vc qo vl vk) (hB:iU m W w0 ks) : Calls Tryz.prog 44 #[.pointer (some ⟨m,0,none⟩),.agg #[.int .i64 6,.int .i64 lv,.string i,.string t,.string d,.string ti,.string at_.id,vc,qo,vl,vk],.agg #[.string p.first,.string p.rest]] w (bU m W w vp (aj.iF W st p (.mk 6 lv i t d ti at_ li ks))):=by
 obtain ⟨ac,nc,cc,rfl⟩:=Rd.au hR.at_.cls
 obtain ⟨ap,np,cp,rfl⟩:=Rd.au hR.at_.aT
 obtain ⟨al,nl,cl,rfl⟩:=Rd.au hR.line;obtain ⟨ak,nk,ck,rfl⟩:=Rd.au hR.kids;obtain ⟨S,q,w3,hS,hq,hw3,kb,kp,kl,b3,z3⟩:=Dl w [.int .i64 6,.int .i64 lv,.string i,.string t,.string d,.string ti,.string at_.id,.slice ac nc cc,.slice ap np cp,.slice al nl cl,.slice ak nk ck] p.first p.rest
 have hv:(aj.mk 6 lv i t d ti at_ li ks).lU=30+i.size+2*t.size+2*(ah.ay li).length+(gK (ah.aC li)).length+aj.bg ks:=by rw [aj.lU]
 have hfit:=hin.fit;rw [hv] at hfit;obtain ⟨g1,g2,g3,g4,g5⟩:=hfit;have M9:=hid (hin.up b3);have HR:=hid hR;have KB:=hid kb;have KP:=hid kp;have B3:=hid b3;have HS:=hid hS;have d0:=kb.cell 0 _ rfl;have e0:=kp.cell 0 _ rfl;have e1:=kp.cell 1 _ rfl;have d10:=kb.cell 10 _ rfl;have HE:Hid (aj.iF W st p (.mk 6 lv i t d ti at_ li ks)=aj.fA W st ⟨p.first++⟨#[62,32]⟩,p.rest++⟨#[62,32]⟩⟩ ks):=by show _=_;rw [aj.iF];rfl
 have s2:(ByteArray.mk #[62,32]).size=2:=rfl;have BC:=hid (hB (.slice ak nk ck) hR.kids st vp ⟨p.first++⟨#[62,32]⟩,p.rest++⟨#[62,32]⟩⟩ w3 ⟨hin.m0,(hin.up b3).b0,(hin.up b3).uN,hin.wd,⟨by show (p.first++_).size+_<=_;rw [ByteArray.size_append];omega,by show (p.rest++_).size+_<=_;rw [ByteArray.size_append];omega,by omega,by omega,by omega⟩,hin.tab,hin.ml⟩);clear hB s2;clear kb kp kl b3 z3 hv g3 g4 g5 hR hin;go_enter Tryz.func44,Tryz.ntmps44;go_upto_region 2 with (fail)
 rw [<- hw3,<- hS,<- hq];clear hw3 hS hq;go_wp2_with fail
 (with_reducible refine BC.out.mono ?_)
 rintro e w5 h5;have HP:=hid (h5.from_ B3.out);obtain ⟨v5,qX,lW,rfl,Dm,-⟩:=h5;obtain ⟨a5,n5,c5,hv5⟩:∃ a n c,v5=.slice a n c:=by obtain ⟨a,c,e⟩:=lI Dm.own;exact ⟨a,_,c,e⟩
 subst hv5;clear Dm;go_wp2;go_ret;rw [HE.out];exact HP.out
theorem Dn (m:Nat) (W:Int) (w0:World) (st:St) (vp:Value) (p:Px) (k lv:Int) (i t d ti:ByteArray) (at_:At) (li:List ah) (ks:List aj) (vc qo vl vk:Value) (w:World) (hin:lV m W w0 st vp p (aj.mk k lv i t d ti at_ li ks).lU w) (hR:xg (·<w0.heap.size) w0 at_ li ks vc qo vl vk) (hk:k=7\/k=8) (hlv:k=8->0<=lv/\lv<=999999999) (hB:∀ x∈ks,iU m W w0 (Da x)) (hG:∀ x∈ks,Ig W x) (MR:k=8->PT w0) : Calls Tryz.prog 44 #[.pointer (some ⟨m,0,none⟩),.agg #[.int .i64 k,.int .i64 lv,.string i,.string t,.string d,.string ti,.string at_.id,vc,qo,vl,vk],.agg #[.string p.first,.string p.rest]] w (bU m W w vp (aj.iF W st p (.mk k lv i t d ti at_ li ks))):=by
 obtain ⟨ac,nc,cc,rfl⟩:=Rd.au hR.at_.cls
 obtain ⟨ap,np,cp,rfl⟩:=Rd.au hR.at_.aT
 obtain ⟨al,nl,cl,rfl⟩:=Rd.au hR.line;obtain ⟨ak,nk,ck,rfl⟩:=Rd.au hR.kids;obtain ⟨S,q,w3,hS,hq,hw3,kb,kp,kl,b3,z3⟩:=Dl w [.int .i64 k,.int .i64 lv,.string i,.string t,.string d,.string ti,.string at_.id,.slice ac nc cc,.slice ap np cp,.slice al nl cl,.slice ak nk ck] p.first p.rest
 have hv:(aj.mk k lv i t d ti at_ li ks).lU=30+i.size+2*t.size+2*(ah.ay li).length+(gK (ah.aC li)).length+aj.bg ks:=by rw [aj.lU]
 have hfit:=hin.fit;rw [hv] at hfit;obtain ⟨g1,g2,g3,g4,g5⟩:=hfit;have M9:=hid (hin.up b3);have HR:=hid hR;have KB:=hid kb;have KP:=hid kp;have B3:=hid b3;have HS:=hid hS;have d0:=kb.cell 0 _ rfl;have e0:=kp.cell 0 _ rfl;have e1:=kp.cell 1 _ rfl;have HE:Hid (aj.iF W st p (.mk k lv i t d ti at_ li ks)=aj.mX W st p k lv 0 ks):=by show _=_;rw [aj.iF];rcases hk with rfl | rfl<;>rfl
 have IC:=hid (AX m W w0 k lv i t d ti at_ li ks (.slice ac nc cc) (.slice ap np cp) (.slice al nl cl) (.slice ak nk ck) hk hlv hR hB hG MR st vp p w3 ⟨hin.m0,(hin.up b3).b0,(hin.up b3).uN,hin.wd,⟨by omega,by omega,by omega,by omega,by omega⟩,hin.tab,hin.ml⟩);have d1:=kb.cell 1 _ rfl;have d2:=kb.cell 2 _ rfl;have d3:=kb.cell 3 _ rfl;have d4:=kb.cell 4 _ rfl;have d5:=kb.cell 5 _ rfl;have d6:=kb.cell 6 _ rfl;have d7:=kb.cell 7 _ rfl;have d8:=kb.cell 8 _ rfl;have d9:=kb.cell 9 _ rfl;have d10:=kb.cell 10 _ rfl;clear hB hG MR hlv;clear kb kp kl b3 z3 hv g3 g4 g5 hR hin;go_enter Tryz.func44,Tryz.ntmps44;go_upto_region 2 with (fail)
 rw [<- hw3,<- hS,<- hq];clear hw3 hS hq;rcases hk with rfl | rfl
 all_goals
  go_wp2_with fail
  (with_reducible refine IC.out.mono ?_)
  rintro e w5 h5;have HP:=hid (h5.from_ B3.out);obtain ⟨v5,qX,lW,rfl,Dm,-⟩:=h5;obtain ⟨a5,n5,c5,hv5⟩:∃ a n c,v5=.slice a n c:=by obtain ⟨a,c,e⟩:=lI Dm.own;exact ⟨a,_,c,e⟩
  subst hv5;clear Dm;go_wp2;go_ret;rw [HE.out];exact HP.out
end Go.Proofs.YtnmldmofggkoeaaGreatDoor

