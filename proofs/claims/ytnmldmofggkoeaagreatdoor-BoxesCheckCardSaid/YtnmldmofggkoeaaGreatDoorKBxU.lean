/- Contract of (*maker).items, where the blocks of each item have their contract. How much the boxes of blocks come to: plain bounds. Contract of boxes.Of, where the blocks have their contract. The small case of layer 39, plainly. Contracts of (*maker).block, kind by kind: quotes, lists, notes, and what has no boxes. The small case of layer 39: its documents in memory, what boxes.Of returns of them, and 'text'. The small case of layer 39: the walk of 'text'. -/
import Derived.Test.YtnmldmofggkoeaaGreatDoorKBxR
import Derived.Test.YtnmldmofggkoeaaGreatDoorKChW
import Derived.Test.YtnmldmofggkoeaaGreatDoorKBxE
set_option maxHeartbeats 8000000
set_option maxRecDepth 100000
open Go.Lib (hid)
namespace Go.Proofs.YtnmldmofggkoeaaGreatDoor
open Go.RowKit.Below renaming refl->XT
open Nat renaming le_refl->XU,le_trans->XV,zero_le->X8
open List renaming length_map->X0,mem_of_getElem?->X9
open Go renaming World->YJ,Value->YL
open Go.RowKit renaming Below->YK
open Go.RowKit
set_option linter.unusedVariables false
set_option linter.unusedSimpArgs false
theorem Dz (n m:Nat) (h:n<10 ^ (m+1)):(Lib.decDigits n).length<=m+1:=by
 induction m generalizing n with
 | zero=>
  rw [Lib.decDigits,dif_pos (by simpa using h)];simp
 | succ m ih=>
  rw [Lib.decDigits];split
  ·simp
  ·rw [List.length_append,List.length_singleton];have:=ih (n/10) (by rw [Nat.pow_succ] at h;omega);omega
theorem MS (n:Nat) (w:YJ) (hn:n<=2000000000) (ht:PT w) : Calls Tryz.prog 81 #[.int .i64 (n:Int)] w fun e w'=>e=.returned (.string (F5 (n:Int)))/\YK w.heap.size w w':=by
 refine (Tryz.strconv_Itoa (n:Int) (by omega) (by omega) w ht.2).mono ?_;rintro e w' ⟨rfl,k,os,rfl⟩;refine ⟨?_,Lib.below_grow _ w (XU _) k os⟩;have:Lib.itoa (n:Int)=Lib.decDigits n:=by unfold Lib.itoa;rw [if_neg (by omega)];simp
 rw [this];rfl
theorem qV (n:Nat) (hn:n<=2000000000):(F5 (n:Int)).size<=20:=by have h:=Dz n 9 (by omega);show (Lib.decDigits (n:Int).toNat).toArray.size<=20;rw [List.size_toArray,Int.toNat_natCast];omega
theorem xX (k lv:Int) (j:Nat) (hlv:k=8->0<=lv/\lv<=999999999) (hj:j<=1000000):(dU k lv j).size<=22:=by
 unfold dU;split
 ·rename_i h
  obtain ⟨n,hn⟩:∃ n:Nat,lv+(j:Int)=(n:Int):=⟨(lv+j).toNat,by have:=hlv h;omega⟩;rw [hn];have:=qV n (by have:=hlv h;omega);rw [ByteArray.size_append];show _+2<=22;omega
 ·show (2:Nat)<=22;omega
def Hy (W:Int) (x:aj):Prop:=∀ st q,aR x.mg st (aj.uQ W st q x)
theorem og {W:Int} {st:St} {p:Px} {k lv:Int} {i:Nat} {x:aj} {l:List aj} (h:(x.uQ W st (p.mark (dU k lv i))).2.err≠0):aj.mQ W st p k lv i (x::l)=([],(x.uQ W st (p.mark (dU k lv i))).2):=by rw [aj.mQ];simp only [if_pos h]
theorem xY {W:Int} {st:St} {p:Px} {k lv:Int} {i:Nat} {x:aj} {l:List aj} (h:(x.uQ W st (p.mark (dU k lv i))).2.err=0):aj.mQ W st p k lv i (x::l)=ahead (x.uQ W st (p.mark (dU k lv i))).1 (aj.mQ W (x.uQ W st (p.mark (dU k lv i))).2 p.next k lv (i+1) l):=by rw [aj.mQ];simp only [if_neg (show ¬ (x.uQ W st (p.mark (dU k lv i))).2.err≠0 from fun e=>e h)]
theorem F6 (W:Int) (k lv:Int):∀ (l:List aj) (i:Nat) (st:St) (p:Px),(aj.mQ W st p k lv i l).2.err≠0->(aj.mQ W st p k lv i l).1=[]
 | [],i,st,p,_=>by rw [aj.mQ]
 | x::l,i,st,p,h=>by
  by_cases h1:(x.uQ W st (p.mark (dU k lv i))).2.err=0
  ·rw [xY h1] at h ⊢;unfold ahead at h ⊢;split
   ·rfl
   ·rename_i h2
    rw [if_neg h2] at h;exact absurd h h2
  ·rw [og h1]
theorem J5 {W:Int} {p:Px} {k lv:Int} {l:List aj} {j:Nat} {y:aj} {s:St} {r:List Bx × St} (hy:l[j]?=some y) (hr:r=y.uQ W s ((pfx p j).mark (dU k lv j))) (h:r.2.err=0):aj.mQ W s (pfx p j) k lv j (l.drop j)=ahead r.1 (aj.mQ W r.2 (pfx p (j+1)) k lv (j+1) (l.drop (j+1))):=by rw [drop_at hy,xY (by rw [<- hr];exact h),nZ,hr]
theorem DC {W:Int} {p:Px} {k lv:Int} {l:List aj} {j:Nat} {y:aj} {s:St} {r:List Bx × St} (hy:l[j]?=some y) (hr:r=y.uQ W s ((pfx p j).mark (dU k lv j))) (h:r.2.err≠0):aj.mQ W s (pfx p j) k lv j (l.drop j)=([],r.2):=by rw [drop_at hy,og (by rw [<- hr];exact h),hr]
theorem AP (p:Px) (k:Nat) (m:ByteArray):((pfx p k).mark m).first.size<=(pfx p k).first.size+m.size/\((pfx p k).mark m).rest.size<=(pfx p k).rest.size+m.size:=by
 constructor
 ·show ((pfx p k).first++m).size<=_;rw [ByteArray.size_append];omega
 ·show ((pfx p k).rest++rW m.size).size<=_;rw [ByteArray.size_append,uE];omega
theorem AQ (m:Nat) (W:Int) (w0:YJ) (kd lv:Int) (i t d ti:ByteArray) (at_:At) (li:List ah) (ks:List aj) (vc pY vl vk:YL) (hkd:kd=7\/kd=8) (hlv:kd=8->0<=lv/\lv<=999999999) (hR:wS (·<w0.heap.size) w0 at_ li ks vc pY vl vk) (hB:∀ x∈ks,iR m W w0 (DF x)) (hG:∀ x∈ks,Hy W x) (MU:kd=8->PT w0) (st:St) (vp:YL) (p:Px) (w:YJ) (hin:lM m W w0 st vp p (aj.bg ks) w) : Calls Tryz.prog 60 #[.pointer (some ⟨m,0,none⟩),.agg #[.int .i64 kd,.int .i64 lv,.string i,.string t,.string d,.string ti,.string at_.id,vc,pY,vl,vk],.agg #[.string p.first,.string p.rest]] w (bT m W w vp (aj.mQ W st p kd lv 0 ks)):=by
 obtain ⟨iB,qm,CW,CX,CY⟩:=info_parts xH;obtain ⟨ac,nc,cc,rfl⟩:=Rd.au hR.at_.cls
 obtain ⟨ap,np,cp,rfl⟩:=Rd.au hR.at_.aS
 obtain ⟨al,nl,cl,rfl⟩:=Rd.au hR.line;obtain ⟨ak,ck,hvk,hs⟩:=Rd.aC hR.kids;obtain ⟨nk,hnk⟩:∃ nk,nk=ks.length:=⟨_,rfl⟩;obtain rfl:vk=.slice ak nk ck:=by rw [hnk];simpa using hvk
 have hcap:nk<=ck:=by have:=hs.le;rw [X0] at this;omega
 have hmx:=hs.max;unfold maxLen at hmx;have hn1:nk<=1000000:=by have:=mZ ks;have:=hin.fit.f;omega
 obtain ⟨S,hS⟩:∃ S,S=w.heap.size:=⟨_,rfl⟩;obtain ⟨wa,DI⟩:∃ wa,wa=w.alloc (.cells #[.int .i64 kd,.int .i64 lv,.string i,.string t,.string d,.string ti,.string at_.id,.slice ac nc cc,.slice ap np cp,.slice al nl cl,.slice ak nk ck] 47):=⟨_,rfl⟩;obtain ⟨w1,hw1⟩:∃ w1,w1=wa.alloc (.cells #[.string p.first,.string p.rest] 66):=⟨_,rfl⟩;have za:wa.heap.size=S+1:=by rw [DI,hS];simp
 have kb:CB 47 S [.int .i64 kd,.int .i64 lv,.string i,.string t,.string d,.string ti,.string at_.id,.slice ac nc cc,.slice ap np cp,.slice al nl cl,.slice ak nk ck] w1:=by rw [hw1];refine CB.below ?_ ((XT _ _).alloc (XU _) _);rw [DI,hS];exact CB.new _ _ _
 have kp:CB 66 (S+1) [.string p.first,.string p.rest] w1:=by rw [hw1,<- za];exact CB.new _ _ _
 have b1:YK w.heap.size w w1:=by rw [hw1,DI];exact ((XT _ _).alloc (XU _) _).alloc (by simp) _
 have z1:w1.heap.size=S+2:=by rw [hw1];simp [za]
 have kK:=hin.uJ.own;have Ho:m<S:=by rw [hS];exact hin.uJ.cb.lt
 have R0:Hid (AO m W (aj.mQ W st p kd lv 0 ks) (fun j s=>aj.mQ W s (pfx p j) kd lv j (ks.drop j)) (fun j=>aj.bg (ks.drop j)) st vp p (S+1) (S+2) S [.int .i64 kd,.int .i64 lv,.string i,.string t,.string d,.string ti,.string at_.id,.slice ac nc cc,.slice ap np cp,.slice al nl cl,.slice ak nk ck] nk w (.slice none 0 0) (.int .i64 0) w1):=⟨0,st,vp,[],[],p,rfl,X8 _,(qQ _ (F6 _ _ _ _ _ _ _)).symm,.inl ⟨rfl,rfl,rfl⟩,(aI.nil _ _ _ (by omega)).top,hin.uJ.below b1,.inl rfl,aN.of_below b1 _,hin.fit,by have:=hin.fit.f;simp;omega,kp,⟨rfl,fun _=>rfl⟩,.inr ⟨by omega,by omega,kb⟩⟩;have uL:=hid hin;have HS:=hid hS;have HN:=hid hnk;have HSL:=hid hs;have QC:=hid hB;have QD:=hid hG;have zy:=hid Ho;have BU:=hid (fun (b:Nat) (e:vp.ownBlock=some b)=>(by rw [hS];exact kK.lt b e:m<=b/\b<S));have Az:vp.ownBlock≠some m:=bR kK hin.uJ.cb (by decide);have O9:=hid Az;have Xn:=hid kb;have B1:=hid b1;have MV:=hid (And.intro hlv MU);have d0:=kb.cell 0 _ rfl;have d10:=kb.cell 10 _ rfl;clear hR hvk hs hnk hB hG hin b1 kK Ho z1 Az kb kp hlv MU;go_enter Tryz.func60,Tryz.ntmps60;go_upto_region 1 with (fail)
 rw [<- DI,<- hS];try rw [za]
 rw [<- hw1];clear DI hw1 hS za;go_wp2
 go_loopw [7,16] (fun v vi wr=>AO m W (aj.mQ W st p kd lv 0 ks) (fun j s=>aj.mQ W s (pfx p j) kd lv j (ks.drop j)) (fun j=>aj.bg (ks.drop j)) st vp p (S+1) (S+2) S [.int .i64 kd,.int .i64 lv,.string i,.string t,.string d,.string ti,.string at_.id,.slice ac nc cc,.slice ap np cp,.slice al nl cl,.slice ak nk ck] nk w v vi wr) (fun _ vi _=>nk-(intOf vi).toNat)
 case atStart=>exact R0.out
 case round=>
  clear R0 d0 d10;obtain ⟨j,st',dZ,acc,rows,pb,rfl,hkn,hr⟩:=hrel;have hb0:YK w0.heap.size w0 wr:=uL.out.xO hr.fr (fun b e=>by
   rcases e with e | e
   ·omega
   ·exact (BU.out b e).1)
  by_cases hlt:j<nk
  ·obtain ⟨y,hy⟩:∃ y,ks[j]?=some y:=⟨_,List.getElem?_eq_getElem (by have:=HN.out;omega)⟩;have MJ:=QC.out y (X9 hy);have MK:=QD.out y (X9 hy) st' ((pfx p j).mark (dU kd lv j));have hvd:=qP ks j y hy;obtain ⟨yk,Dy,yi,yt,yd,zA,zB,JI,xW⟩:=y;obtain ⟨ga,off,vc,pY,vl,vk,rfl,hok,hbl,hc,hR⟩:=jv HSL.out hy;obtain ⟨c0,c1,c2,c3,c4,c5,c6,c7,c8,c9,c10⟩:=hc.at2 (w':=wr) (hb0.block ga hok);obtain ⟨JJ,JK,JL,rfl⟩:=Rd.au hR.at_.cls
   obtain ⟨JM,JN,JO,rfl⟩:=Rd.au hR.at_.aS
   obtain ⟨JQ,JR,JU,rfl⟩:=Rd.au hR.line;obtain ⟨FW,FX,hyk,-⟩:=Rd.aC hR.kids;obtain ⟨wV,J6⟩:∃ wV,wV=xW.length:=⟨_,rfl⟩;obtain rfl:vk=.slice FW wV FX:=by rw [J6];simpa using hyk
   obtain ⟨q,hq⟩:∃ q,q=wr.heap.size:=⟨_,rfl⟩;obtain ⟨wq,hwq⟩:∃ wq,wq=wr.alloc (.cells #[.int .i64 yk,.int .i64 Dy,.string yi,.string yt,.string yd,.string zA,.string zB.id,.slice JJ JK JL,.slice JM JN JO,.slice JQ JR JU,.slice FW wV FX] 47):=⟨_,rfl⟩;have kq:CB 47 q [.int .i64 yk,.int .i64 Dy,.string yi,.string yt,.string yd,.string zA,.string zB.id,.slice JJ JK JL,.slice JM JN JO,.slice JQ JR JU,.slice FW wV FX] wq:=by rw [hwq,hq];exact CB.new _ _ _
   have bq:YK wr.heap.size wr wq:=by rw [hwq];exact (XT _ _).alloc (XU _) _
   have hSw:S+1<wr.heap.size:=hr.box.lt;have JE:S+1≠q:=by omega
   have kb:=hr.box.below bq;have kB:=(hr.SG.resolve_left (by omega)).2.2.below bq;obtain ⟨av,cv,hv⟩:=lu hr.row.own;obtain ⟨na,hna⟩:∃ na,na=(acc.map Bx.d).length:=⟨_,rfl⟩;rw [<- hna] at hv;subst hv;have tq:=hid hna.symm;have HR:=hid hr;have HY:=hid hy;have QE:=hid MJ;have ML:=hid MK;have JV:=hid hvd;have QF:=hid hR;have KQ:=hid kq;have BQ:=hid bq;have KB:=hid kb;have HB0:=hid hb0;have SK:=hid J6;have Ji:na<=1000000:=by have:=hr.len;rw [hna,X0];omega
   have Hw:=hid hr.QB;have Lm:=hid kB;have SI:=hid (And.intro hSw JE);have J7:=hid (xX kd lv j MV.out.1 (by omega));obtain ⟨mk,hmk⟩:∃ mk,mk=dU kd lv j:=⟨_,rfl⟩;rw [<- hmk] at J7 ML;have Pj:=hid hmk;have b0:=kB.cell 0 _ rfl;have b1':=kB.cell 1 _ rfl;have Vv:Hid (YK w0.heap.size w0 wq):=aL hb0 bq;clear hok hbl hc hR hy MJ MK hvd kq bq kb hb0 hr hna hSw kB hyk J6 hmk;rcases hkd with rfl | rfl
   case' inl=>
    have MW:Hid (mk=⟨#[45,32]⟩):=by have h:=Pj.out;show mk=_;rw [h];rfl
    go_upto_region 5 with (fail)
    rw [<- hwq,<- hq];clear hwq hq c0 c1 c2 c3 c4 c5 c6 c7 c8 c9 c10;go_upto_region 8 with (fail)
    rw [<- MW.out];obtain ⟨wm,Hz⟩:∃ wm:YJ,wm=wq:=⟨_,rfl⟩;have BM:Hid (YK wq.heap.size wq wm):=by rw [Hz];exact XT _ _
    rw [<- Hz];clear Hz MW b0 b1'
   case' inr=>
    have Vw:=MV.out.1 rfl;obtain ⟨hl0,hl1⟩:=Vw;obtain ⟨ds,hds⟩:∃ ds,ds=F5 (lv+(j:Int)):=⟨_,rfl⟩;have hdz:ds.size<=20:=by rw [hds,show lv+(j:Int)=(((lv+j).toNat:Nat):Int) from by omega];exact qV _ (by omega)
    have IT:=MS (lv+j).toNat wq (by omega) ((MV.out.2 rfl).below Vv.out);rw [show (((lv+j).toNat:Nat):Int)=lv+(j:Int) from by omega,<- hds] at IT;have SL:=hid IT;have MX:Hid (mk=ds++⟨#[46,32]⟩):=by have h:=Pj.out;show mk=_;rw [h,hds];rfl
    clear IT hds;go_upto_region 5 with (fail)
    rw [<- hwq,<- hq];clear hwq hq c0 c1 c2 c3 c4 c5 c6 c7 c8 c9 c10;go_wp2_with fail
    (with_reducible refine SL.out.mono ?_)
    rintro e wm ⟨rfl,bm⟩;have BM:=hid bm;clear bm SL;go_upto_region 8 with (fail)
    rw [<- MX.out];clear MX hdz b0 b1' hl0 hl1
   all_goals
    have kq:=KQ.out.below BM.out;have kp:=KB.out.below BM.out;rcases Nat.eq_zero_or_pos j with hj0 | hj0
    case' inl=>
     have hpe:Hid (pfx p j=p):=by show _=_;unfold pfx;rw [if_pos hj0]
     have q0:decide ((0:Int)<(j:Int))=false:=by simp;omega
     have JW:decide (0<j)=false:=by simp;omega
     have FY:Hid (pb=p):=Hw.out.2 hj0;clear hj0;go_upto_region 10 with (fail)
     obtain ⟨ws,hws⟩:∃ ws:YJ,ws=wm:=⟨_,rfl⟩;have KA:Hid (CB 66 (S+1) [.string (pfx p j).first,.string (pfx p j).rest] ws):=by have h:=kp;rw [FY.out,<- hws] at h;rw [hpe.out];exact h
     have FS:Hid (aN (fun b=>b=S+1) wm ws):=by rw [hws];exact aN.refl _ _
     rw [<- hws];clear hws q0 JW FY hpe
    case' inr=>
     have hpe:Hid (pfx p j=p.next):=by show _=_;unfold pfx;rw [if_neg (by omega)]
     have q0:decide ((0:Int)<(j:Int))=true:=by simp;omega
     have JW:decide (0<j)=true:=by simpa using hj0
     have e0:=kp.cell 0 _ rfl;have e1:=kp.cell 1 _ rfl;have ef:=rR kp;clear hj0;go_upto_region 10 with (fail)
     obtain ⟨ws,hws⟩:∃ ws:YJ,ws=wm.setCell ⟨S+1,0,none⟩ (.string pb.rest):=⟨_,rfl⟩;have KA:Hid (CB 66 (S+1) [.string (pfx p j).first,.string (pfx p j).rest] ws):=by have h:=qI kp 0 (.string pb.rest);rw [<- hws] at h;rw [hpe.out];show CB _ (S+1) [.string p.rest,.string p.rest] ws;rw [<- Hw.out.1];exact h
     have FS:Hid (aN (fun b=>b=S+1) wm ws):=by rw [hws];exact aN.set wm (S+1) 0 _
     rw [<- hws];clear hws q0 JW hpe e0 e1 ef
    all_goals
     have SN:=kq.fr FS.out (fun e=>SI.out.2 e.symm);have p0:=KA.out.cell 0 _ rfl;have p1:=KA.out.cell 1 _ rfl;have L9:=HR.out.fit;have hf1:=L9.f;have hf2:=L9.r;have MC:=hid (xM (pfx p j) mk ws (by omega) (by omega) (by have:=J7.out;omega));have hmn:=AP p j mk;obtain ⟨Q,hQ⟩:∃ Q,Q=(pfx p j).mark mk:=⟨_,rfl⟩;rw [<- hQ] at MC ML hmn;have HQ:=hid hQ;have Vx:(aj.mk yk Dy yi yt yd zA zB JI xW).mg=30+yi.size+2*yt.size+2*(ah.aA JI).length+(iy (ah.aD JI)).length+aj.bg xW:=by rw [aj.mg]
     have H8:Fits (aj.bg xW) st' Q:=by have h1:=L9.mono (n':=30+aj.bg xW) (by show _<=aj.bg (ks.drop j);have:=JV.out;omega);obtain ⟨x1,x2,x3,x4,x5⟩:=h1;have:=J7.out;exact ⟨by omega,by omega,by omega,by omega,by omega⟩
     have Lr:=hid H8;clear hQ L9 hf1 hf2 hmn Vx H8 kq kp;go_wp2_with fail
     (with_reducible refine MC.out.mono ?_)
     rintro e w4 ⟨rfl,b4⟩;obtain ⟨q2,hq2⟩:∃ q2,q2=w4.heap.size:=⟨_,rfl⟩;obtain ⟨wA,iT⟩:∃ wA,wA=w4.alloc (.cells #[.string Q.first,.string Q.rest] 66):=⟨_,rfl⟩;have bA:YK w4.heap.size w4 wA:=by rw [iT];exact (XT _ _).alloc (XU _) _
     have SV:Hid (CB 66 q2 [.string Q.first,.string Q.rest] wA):=by rw [iT,hq2];exact CB.new _ _ _
     have zC:=hid ((SN.below b4).below bA);have Vy:=hid ((KA.out.below b4).below bA);have FA:Hid (aN (fun b=>b=S+1) wr wA):=(((aN.of_below (aL BQ.out BM.out) (fun b=>b=S+1)).trans FS.out (fun b _ e=>e)).trans (aN.of_below (aL b4 bA) (fun _=>False)) (fun _ _ e=>e.elim));clear bA b4 MC SN p0 p1 KA FS;go_upto_region 11 with (fail)
     rw [<- iT,<- hq2];have e10:=zC.out.cell 10 _ rfl;have g0:=SV.out.cell 0 _ rfl;have g1:=SV.out.cell 1 _ rfl;clear iT hq2;obtain ⟨r,hrr⟩:∃ r,r=aj.uQ W st' Q (aj.mk yk Dy yi yt yd zA zB JI xW):=⟨_,rfl⟩;have HG:=hid (ML.out);rw [<- hrr] at HG;have HRR:=hid hrr;clear hrr;have QJ:Hid (YK w0.heap.size w0 wA):=HB0.out.trans (FA.out.below _ HB0.out.size (fun b e=>by have:=zy.out;have:=uL.out.m0;have e1:b=S+1:=e;omega));have AU:Hid (nN m W st' dZ wA):=HR.out.mO.fr FA.out (fun e=>by have:=zy.out;have e1:m=S+1:=e;omega) (fun b e e'=>by
      have e1:b=S+1:=e';rcases HR.out.Dw with h | h
      ·rw [h] at e;have:=(BU.out b e).2;omega
      ·rw [h] at e;simp [Value.ownBlock] at e)
     rcases Nat.eq_zero_or_pos wV with hkz | hkz
     case' inl=>
      have q1:decide ((0:Int)<(wV:Int))=false:=by simp;omega
      have q1':decide (0<wV)=false:=by simp;omega
      have DJ:xW=[]:=List.length_eq_zero_iff.1 (by have:=SK.out;omega);have tu:Hid (r=q0z st' ([]++[Bx.new (Q.text ([]:List Bx).length ⟨#[]⟩) 1 false]) []):=by have h:=HRR.out;rw [DJ,aj.uQ,if_pos rfl] at h;show r=_;rw [h];rfl
      obtain ⟨q3,hq3⟩:∃ q3,q3=wA.heap.size:=⟨_,rfl⟩;obtain ⟨wL,Pk⟩:∃ wL,wL=wA.alloc (.cells #[.string Q.first,.string Q.rest,.slice none 0 0] 99):=⟨_,rfl⟩;have bL:YK wA.heap.size wA wL:=by rw [Pk];exact (XT _ _).alloc (XU _) _
      have kl:CB 99 q3 [.string Q.first,.string Q.rest,.slice none 0 0] wL:=by rw [Pk,hq3];exact CB.new _ _ _
      have A1:=hid (jk q3 Q [] (.slice none 0 0) wL.heap.size wL.heap.size ⟨#[]⟩ 1 false wL (by have:=Lr.out.f;omega) (by have:=Lr.out.r;omega) (by show (0:Nat)<=_;omega) (by simp) kl kl.lt (aI.nil _ _ _ (XU _)));have BL:=hid bL;have DK:=hid hq3;clear hkz DJ bL kl;go_upto_region 14 with (fail)
      rw [<- Pk,<- hq3];clear Pk hq3 q1 q1';go_wp2_with fail
      (with_reducible refine A1.out.mono ?_)
      rintro e wB ⟨rfl,vB,MZ,zD,J8⟩;obtain ⟨LL,j6⟩:∃ LL,LL=[]++[Bx.new (Q.text ([]:List Bx).length ⟨#[]⟩) 1 false]:=⟨_,rfl⟩;rw [<- j6] at zD tu;have SX:nN m W st' dZ wB:=(AU.out.below BL.out).fr J8 (fun e=>by
       rcases e with e | e
       ·have:=AU.out.cb.lt;have:=DK.out;omega
       ·simp [Value.ownBlock] at e) (fun g e e'=>by
       rcases e' with e' | e'
       ·have:=(AU.out.own.lt g e).2;have:=DK.out;omega
       ·simp [Value.ownBlock] at e')
      have FB:aN (fun b=>b=m\/dZ.ownBlock=some b) wA wB:=(aN.of_below BL.out _).trans J8 (fun b hb e=>by
       rcases e with e | e
       ·have:=DK.out;omega
       ·simp [Value.ownBlock] at e)
      have LF:=hid (uH m W st' dZ wL.heap.size wB.heap.size vB (.slice none 0 0) LL [] (fun _=>False) wB SX (by rw [j6];simp) zD (by rw [j6];intro y hy;simp at hy;rw [hy];rfl) (Rd.aJ _ _ _) (fun _ h=>h.elim) (by have:=Lr.out.g;omega) (by have:=Lr.out.c;omega) (by rw [j6];simp) (by have:=Lr.out.p;simp;omega) (by have:=AU.out.cb.lt;have:=BL.out.size;omega) (fun b e=>by have:=(AU.out.own.lt b e).2;have:=BL.out.size;omega));have b2:=MZ.cell 2 _ rfl;obtain ⟨aB,cB,hvB⟩:=lu zD.own;have hlB:(LL.map Bx.d).length=1:=by rw [j6];rfl
      rw [hlB] at hvB;subst hvB;have SY:=hid FB;have S9:=hid BL.out.size;clear j6 SX FB zD J8 MZ A1 BL hlB;go_wp2_with fail
      (with_reducible refine LF.out.mono ?_)
      rintro e w5 hlp;have Ta:=bT.of hlp SY.out S9.out;rw [<- tu.out] at Ta;obtain ⟨v5,qR,lN,rfl,dS,hmk5,rY,hown5,lQ⟩:=Ta;clear hlp LF tu SY S9 b2
     case' inr=>
      have q1:decide ((0:Int)<(wV:Int))=true:=by simp;omega
      have q1':decide (0<wV)=true:=by simpa using hkz
      have DJ:xW≠[]:=fun e=>by have:=SK.out;rw [e] at this;simp at this;omega
      have tu:Hid (r=aj.gq W st' Q xW):=by have h:=HRR.out;rw [aj.uQ,if_neg DJ] at h;exact h
      have BC:=hid (QE.out (.slice FW wV FX) QF.out.kids st' dZ Q wA ⟨uL.out.m0,QJ.out,AU.out,uL.out.wd,Lr.out,uL.out.tab,uL.out.ml⟩);unfold DF at BC;rw [<- tu.out] at BC;clear hkz DJ tu;go_wp2_with fail
      (with_reducible refine BC.out.mono ?_)
      rintro e w5 ⟨v5,qR,lN,rfl,dS,hmk5,rY,hown5,lQ⟩;clear BC q1 q1'
     all_goals
      obtain ⟨n5,uN⟩:∃ n5,n5=(r.1.map Bx.d).length:=⟨_,rfl⟩;have MO:na+n5<=1000000:=by have h1:=HG.out.len;have h2:=HR.out.len;have h3:=JV.out;have h4:=tq.out;rw [X0] at h4 uN;omega
      obtain ⟨a5,c5,hv5⟩:=lu dS.own;rw [<- uN] at hv5;have JX:wr.heap.size<=w5.heap.size:=XV FA.out.size lQ.size;have JY:∀ b,b=S+1->w.heap.size<=b/\b<S+2:=fun b e=>by have:=HS.out;omega
      have hpw:∀ b,vp.ownBlock=some b->b<w.heap.size:=fun b e=>by have:=(BU.out b e).2;have:=HS.out;omega
      have hmw:m<w.heap.size:=by have:=zy.out;have:=HS.out;omega
      have BX:w.heap.size<=S+2:=by have:=HS.out;omega
      have uO:=HR.out.Hu (r:=r) hmw hpw O9.out BX FA.out JY lQ rY;have MP:Rd (fun b=>(vp.ownBlock=some b/\(r.2.err=0->lN.ownBlock≠some b))\/wr.heap.size<=b) w5 (.sl 6 (r.1.map Bx.d)) [v5]:=by
       have h:=dS.2.rd;rw [dS.sz] at h;refine h.weaken (fun b hb=>hb.imp (fun h=>⟨?_,fun _=>h.2⟩) (fun h=>XV FA.out.size h));rcases HR.out.Dw with h' | h'
       ·rw [h'] at h;exact h.1
       ·rw [h'] at h;simp [Value.ownBlock] at h
      have JZ:=hid uO;have QG:=hid MP;have J2:=hid hmk5;have HV5:=hid (And.intro rY hown5);have FZ:=hid lQ;have J3:=hid uN.symm;have ng:Hid (∀ b,(vp.ownBlock=some b/\(r.2.err=0->lN.ownBlock≠some b))->b<(ql (S+2) w5).heap.size):=fun b h=>by
       rw [FE (by have:=HR.out.row.1;omega)];have:=(BU.out b h.1).2;omega
      have HW:=hid (And.intro hmw (And.intro hpw (And.intro BX (And.intro (show w.heap.size<=S+1/\S+1<S+2 by have:=HS.out;omega) JY))));clear dS hmk5 rY hown5 lQ uN JX uO MP JY hpw hmw BX e10 g0 g1;subst hv5;go_wp2_with (at_builtin;refine mh (T:=37) (k:=6) rfl _ _ 22 rfl iB _ 64 Tryz.underlying22 qm CW CX CY rfl (by decide) JZ.out.2 ng.out _ QG.out (fun rs ok h=>zu r.1 rs ok w5 h) tq.out J3.out (by omega) (by decide) rfl rfl ?_)
      intro a6 c6 qU w6 uP wU;have hkv:(Value.slice av na cv).ownBlock≠some m/\∀ g,lN.ownBlock=some g->(Value.slice av na cv).ownBlock≠some g:=⟨fun e=>by have:=(JZ.out.own.lt m e).1;have:=zy.out;omega,fun g e=>mY J2.out.own JZ.out.own (by decide) g e⟩;have F4:=J2.out.fr (aN.grown wU) hkv.1 (fun g e e'=>hkv.2 g e e');have MQ:=HR.out.frame HW.out.2.2.1 FA.out (fun b e=>(HW.out.2.2.2.2 b e).1) FZ.out wU;have f5:=F4.cb.cell 5 _ rfl;have J4:=hid F4;have Pg:=hid MQ;have QH:=hid uP;have QI:=hid wU;have Ph:=hid FA.out.size;clear uP wU hkv F4 MQ;by_cases he:r.2.err=0
      case' pos=>
       have q2:(((r.2.err:Nat):Int)==0)=true:=by rw [he];rfl
       have MR:=HR.out.next (r:=r) HW.out.1 HW.out.2.1 HW.out.2.2.1 HW.out.2.2.2.1 FA.out HW.out.2.2.2.2 (.inr (by omega)) HG.out (by show _+aj.bg (ks.drop (j+1))<=aj.bg (ks.drop j);have:=JV.out;omega) (J5 HY.out (by rw [HRR.out,HQ.out,Pj.out]) he) he Vy.out J2.out HV5.out.1 FZ.out QI.out QH.out
       have HF:=hid (show AO m W (aj.mQ W st p _ lv 0 ks) (fun j s=>aj.mQ W s (pfx p j) _ lv j (ks.drop j)) (fun j=>aj.bg (ks.drop j)) st vp p (S+1) (S+2) S _ nk w (.slice a6 (na+n5) c6) (.int .i64 ((j+1:Nat):Int)) w6 from ⟨j+1,_,lN,_,qU,pfx p j,rfl,by omega,MR⟩);clear MR he;go_wp2;go_roundw;case rel=>exact HF.out
       case measure=>simp [intOf];omega
      case' neg=>
       have q2:(((r.2.err:Nat):Int)==0)=false:=by simp;omega
       have HP:=hid (HR.out.stop (s':=r.2) (w7:=w6) Ph.out (DC HY.out (by rw [HRR.out,HQ.out,Pj.out]) he) he J4.out HV5.out.2 Pg.out);clear he;go_wp2;go_ret;exact HP.out
  ·have hkl:j=ks.length:=by have:=HN.out;omega
   have HP:=hid (hr.done (by have:=HS.out;omega) (by show aj.mQ W st' (pfx p j) kd lv j (ks.drop j)=_;rw [hkl,List.drop_length,aj.mQ]));obtain ⟨av,cv,hv⟩:=lu hr.row.own;subst hv;clear hkl hr hb0;go_wp2;go_ret;exact HP.out
open Go.RowKit
theorem aR.mono {n n':Nat} {st:St} {r:List Bx × St} (h:aR n st r) (hn:n<=n'):aR n' st r:=⟨h.wT.mono hn,XV h.len hn,h.err⟩
theorem aR.nil (n:Nat) (st:St):aR n st ([],st):=⟨dO.refl _ _,X8 _,fun _ _=>rfl⟩
theorem aR.leaf (st:St) (L:List Bx) (own:List ByteArray) (n:Nat) (h1:1<=n) (h2:L.length<=n):aR n st (q0z st L own):=by obtain ⟨h3,h4⟩:=gP st L own n h1 h2;exact ⟨h3,by omega,fun e e0=>absurd e0 (by rw [jo] at e;exact e)⟩
theorem aR.DL {n n':Nat} {st s1:St} {a:List Bx} {r:List Bx × St} (h1:dO n st s1) (hl:a.length<=n) (h2:aR n' s1 r):aR (n+n') st (ahead a r):=by
 unfold ahead;split
 ·exact ⟨h1.trans h2.wT,X8 _,fun _ _=>rfl⟩
 ·rename_i h
  refine ⟨h1.trans h2.wT,?_,fun e=>absurd e h⟩;have:=h2.len;rw [List.length_append];omega
theorem jw (p:Px) (h:Int) (keep:Nat->Bool) (ts:List ByteArray):(kJ p h keep ts).length=ts.length:=by simp [kJ]
theorem dO.uR {n:Nat} {a b:St} (h:dO n a b):dO n a b.lim:=by have:=h.trans (Di b);simpa using this
theorem dO.J9 (n:Nat) (st:St) (e:Nat):dO n st { st with err:=e }:=⟨by simp,by simp,by simp,rfl⟩
theorem aR.table (st:St) (p:Px) (ks:List aj) (n:Nat) (h1:1<=n) (h2:ks.length<=n):aR n st (xZ st p ks):=by
 obtain ⟨h3,h4⟩:=gP st (kJ p 1 (fun i=>decide (i=0)&&decide (1<ks.length)) (ks.map Ka)) [] n h1 (by rw [jw];simpa using h2);have h5:=jo st (kJ p 1 (fun i=>decide (i=0)&&decide (1<ks.length)) (ks.map Ka)) [];rw [jw,X0] at h4;unfold xZ;by_cases hf:st.lq=true
 ·simp only [if_pos hf];exact ⟨h3,by omega,fun e e0=>absurd e0 (by rw [h5] at e;exact e)⟩
 ·simp only [if_neg hf];refine ⟨h3,?_,fun e e0=>absurd e0 (by simp only [h5] at e;exact e)⟩;simp only [H9,X0,List.length_zip];omega
mutual
theorem qW (W:Int) (hW:1<=W/\W<=1048576):∀ (x:aj) (st:St) (p:Px),aR x.mg st (aj.iF W st p x)
 | .mk k lv i t d ti a li ks,st,p=>by
  have hv:(aj.mk k lv i t d ti a li ks).mg=30+i.size+2*t.size+2*(ah.aA li).length+(iy (ah.aD li)).length+aj.bg ks:=by rw [aj.mg]
  rw [aj.iF,hv];split
  ·split
   ·exact ⟨dO.J9 _ _ _,X8 _,fun _ _=>rfl⟩
   ·have:=(nU li p W hW).1;exact aR.leaf _ _ _ _ (by omega) (by rw [jw];omega)
  ·split
   ·refine aR.leaf _ _ _ _ (by omega) ?_;rw [jw];have h1:=kH (ig t);have h2:=eG t;omega
   ·split
    ·exact aR.leaf _ _ _ _ (by omega) (by simp;omega)
    ·split
     ·exact aR.table _ _ _ _ (by omega) (by have:=mZ ks;omega)
     ·split
      ·exact (oh W hW ks st _).mono (by omega)
      ·split
       ·exact (Ia W hW ks st p k lv 0).mono (by omega)
       ·split
        ·split
         ·have h:=oh W hW ks { st with lq:=true } p;simp only;split
          ·exact ⟨⟨by have:=h.wT.g;simp only at this ⊢;omega,by have:=h.wT.c;simp only at this ⊢;omega,by have:=h.wT.p;simp only at this ⊢;omega,rfl⟩,X8 _,fun _ _=>rfl⟩
          ·rename_i he
           have h2:dO (aj.bg ks) st { (aj.gq W { st with lq:=true } p ks).2 with lq:=st.lq }:=⟨by have:=h.wT.g;simp only at this ⊢;omega,by have:=h.wT.c;simp only at this ⊢;omega,by have:=h.wT.p;simp only at this ⊢;omega,rfl⟩;have h3:=gP { (aj.gq W { st with lq:=true } p ks).2 with lq:=st.lq } [M0 p (aj.gq W { st with lq:=true } p ks).1] (cK a li++aj.F7 ks) 1 (by omega) (by simp);refine ⟨(h2.trans h3.1).mono (by omega),by rw [h3.2];simp;omega,fun e _=>?_⟩;rw [jo] at e;exact absurd e he
         ·have key:∀ s0:St,dO 1 st s0->(st.err=0->s0.err=0)->aR (30+i.size+2*t.size+2*(ah.aA li).length+(iy (ah.aD li)).length+aj.bg ks) st (if (aj.gq W s0 p ks).1≠[]\/a.id.data.toList=[]\/(aj.gq W s0 p ks).2.err≠0 then aj.gq W s0 p ks else q0z (aj.gq W s0 p ks).2 [Bx.new (p.first++⟨#[]⟩) 1 false] []):=by
           intro s0 h0 he0;have h:=oh W hW ks s0 p;split
           ·exact ⟨(h0.trans h.wT).mono (by omega),by have:=h.len;omega,fun e e0=>h.err e (he0 e0)⟩
           ·rename_i hn
            have h3:=gP (aj.gq W s0 p ks).2 [Bx.new (p.first++⟨#[]⟩) 1 false] [] 1 (by omega) (by simp);refine ⟨((h0.trans h.wT).trans h3.1).mono (by omega),by rw [h3.2];simp;omega,fun e _=>?_⟩;rw [jo] at e;exact absurd (.inr (.inr e)) hn
          refine key _ ?_ ?_
          ·split
           ·exact ⟨by simp,by simp,by simp,rfl⟩
           ·exact dO.refl _ _
          ·intro e;split<;>exact e
        ·split
         ·exact (oh W hW ks st _).mono (by omega)
         ·exact aR.nil _ _
theorem oh (W:Int) (hW:1<=W/\W<=1048576):∀ (l:List aj) (st:St) (p:Px),aR (aj.bg l) st (aj.gq W st p l)
 | [],st,p=>by rw [aj.gq];exact aR.nil _ _
 | x::l,st,p=>by
  have h:=qW W hW x st p;rw [jr];by_cases he:(x.iF W st p).2.lim.err=0
  ·rw [xV he];exact aR.DL h.wT.uR h.len (oh W hW l _ _)
  ·rw [nY he];exact ⟨h.wT.uR.mono (by omega),X8 _,fun _ _=>rfl⟩
theorem Ia (W:Int) (hW:1<=W/\W<=1048576):∀ (l:List aj) (st:St) (p:Px) (k lv:Int) (i:Nat),aR (aj.bg l) st (aj.mQ W st p k lv i l)
 | [],st,p,k,lv,i=>by rw [aj.mQ];exact aR.nil _ _
 | x::l,st,p,k,lv,i=>by
  have h:=Ib W hW x st (p.mark (dU k lv i));rw [jr];by_cases he:(x.uQ W st (p.mark (dU k lv i))).2.err=0
  ·rw [xY he];exact aR.DL h.wT h.len (Ia W hW l _ _ _ _ _)
  ·rw [og he];exact ⟨h.wT.mono (by omega),X8 _,fun _ _=>rfl⟩
theorem Ib (W:Int) (hW:1<=W/\W<=1048576):∀ (x:aj) (st:St) (q:Px),aR x.mg st (aj.uQ W st q x)
 | .mk k lv i t d ti a li ks,st,q=>by
  have hv:(aj.mk k lv i t d ti a li ks).mg=30+i.size+2*t.size+2*(ah.aA li).length+(iy (ah.aD li)).length+aj.bg ks:=by rw [aj.mg]
  rw [aj.uQ,hv];split
  ·exact aR.leaf _ _ _ _ (by omega) (by simp;omega)
  ·exact (oh W hW ks st q).mono (by omega)
end
open Go.RowKit
def QK:ah->Int | .mk k _ _ _ _ _ _ _=>k
def x9 (x:ah):Bool:=decide (QK x=15)||(decide (QK x=13)||decide (QK x=14))
def F8 (cl:ByteArray->Bool) (W:Int) (me:List Pr) (l:List aj):List Bx × Nat:=
 if eH cl me l≠0 then ([],eH cl me l) else if (aj.aM l).any x9=true then ([],5) else kL W l
def Pm (r:List Bx × Nat) (w:YJ) (e:Ending) (w':YJ):Prop:=
 ∃ v,e=.returned (.tuple #[v,.int .i64 (r.2:Nat)])/\Rd (w.heap.size<=·) w' (.sl 6 (r.1.map Bx.d)) [v]/\YK w.heap.size w w'
def Ic (l:List ah) (w2:YJ) (vi:YL) (wr:YJ):Prop:=∃ k:Nat,k<=l.length/\vi=.int .i64 k/\(l.take k).any x9=false/\YK w2.heap.size w2 wr
theorem yc (W:Int) (l:List aj) (r:List Bx × St) (h:r=aj.gq W ⟨0,[],0,false,0⟩ ⟨⟨#[]⟩,⟨#[]⟩⟩ l):kL W l=if r.2.err≠0 then ([],r.2.err) else if 4096<r.1.length then ([],3) else (r.1,0):=by unfold kL;rw [<- h]
theorem om (cl:ByteArray->Bool) (W:Int) (me:List Pr) (l:List aj) (am ab:Option Addr) (cm nb cb:Nat) (w:YJ) (hW:1<=W/\W<=1048576) (hme:me.length<=1000) (uS:∀ p∈me,p.key.size<=1000/\p.val.size<=1000) (hall:aj.bB l<=32768) (hsm:aj.aK l) (hm:aj.oo l=true->mo cl) (hbd:aj.jN l) (hsz:aj.aV l<=1000000) (hln:(aj.aM l).length<=1000000) (M4:aj.bg l<=900000) (h1:Rd (·<w.heap.size) w (DN me) [.slice am me.length cm]) (h2:Rd (·<w.heap.size) w (aY l) [.slice ab nb cb]) (hB:eH cl me l=0->(aj.aM l).any x9=false->∀ wz,YK w.heap.size w wz->iR wz.heap.size W wz l) (ht:TabAt w) (hml:kG w) : Calls Tryz.prog 11 #[.agg #[.slice am me.length cm,.slice ab nb cb],.int .i64 W] w (Pm (F8 cl W me l) w):=by
 obtain ⟨a2,c2,hv2,hs2⟩:=Rd.aC h2;obtain ⟨rfl,rfl,rfl⟩:a2=ab/\nb=l.length/\c2=cb:=by simp at hv2;exact ⟨hv2.1.symm,hv2.2.1,hv2.2.2.symm⟩
 obtain ⟨S,hS⟩:∃ S,S=w.heap.size:=⟨_,rfl⟩;obtain ⟨w1,hw1⟩:∃ w1,w1=w.alloc (.cells #[.slice am me.length cm,.slice a2 l.length c2] 30):=⟨_,rfl⟩;have kd:CB 30 S [.slice am me.length cm,.slice a2 l.length c2] w1:=by rw [hw1,hS];exact CB.new _ _ _
 have b1:YK w.heap.size w w1:=by rw [hw1];exact (XT _ _).alloc (XU _) _
 have TC:=hid (yj cl me l am a2 cm l.length c2 w1 hme uS hall hsm hm (h1.up b1) (h2.up b1));have HV:Hid (F8 cl W me l=if eH cl me l≠0 then ([],eH cl me l) else if (aj.aM l).any x9=true then ([],5) else kL W l):=rfl;obtain ⟨V,hV⟩:∃ V,V=F8 cl W me l:=⟨_,rfl⟩;rw [<- hV] at HV ⊢;obtain ⟨DE,Td⟩:∃ DE,DE=eH cl me l:=⟨_,rfl⟩;rw [<- Td] at HV TC hB;have HB:=hid hB;have KD:=hid kd;have B1:=hid b1;have H2:=hid h2;have HS:=hid hS;have HT:=hid ht;have HM:=hid hml;have nu:=hid (And.intro hbd (And.intro hsz hln));have zF:=hid M4;obtain ⟨hW1,hW2⟩:=hW;have d0:=kd.cell 0 _ rfl;have d1:=kd.cell 1 _ rfl;have q1:decide (W<1)=false:=by simp;omega
 have q2:decide ((1048576:Int)<W)=false:=by simp;omega
 obtain ⟨nl,hnl⟩:∃ nl,nl=l.length:=⟨_,rfl⟩;obtain ⟨nm,hnm⟩:∃ nm,nm=me.length:=⟨_,rfl⟩;rw [<- hnl] at TC d1 KD H2 hw1 ⊢;rw [<- hnm] at TC d0 KD hw1 ⊢;clear h1 h2 hv2 hs2 hV Td hB kd b1 ht hml hbd hsz hln M4 hme uS hall hsm hm hnl hnm;go_enter Tryz.func11,Tryz.ntmps11;go_upto_region 1 with (fail)
 rw [<- hw1,<- hS];clear hw1 hS;go_wp2_with fail
 (with_reducible refine TC.out.mono ?_)
 rintro e w2 ⟨rfl,b2⟩;have B2:=hid (aL B1.out b2);have Pn:=hid (KD.out.below b2);have x0:=Pn.out.cell 0 _ rfl;have x1:=Pn.out.cell 1 _ rfl;clear b2 TC KD d0 d1;by_cases hd:DE=0;case neg=>
  have q3:((DE:Int)==0)=false:=by simpa using hd
  have HE:Hid (V=([],DE)):=by show _=_;rw [HV.out,if_pos hd]
  clear hd;go_wp2
  go_ret2
  rw [HE.out];exact ⟨_,rfl,Rd.aJ _ _ _,B2.out⟩
 have q3:((DE:Int)==0)=true:=by rw [hd];rfl
 have HD:=hid hd;have IC:=hid (uT l (.slice a2 nl c2) w2 (H2.out.up B2.out) nu.out.1 nu.out.2.1 nu.out.2.2);clear hd;go_wp2_with fail
 (with_reducible refine IC.out.mono ?_)
 rintro e w3 ⟨v3,Tf,rfl,hown3,M5,h10,b3⟩;obtain ⟨n,hn⟩:∃ n,n=(aj.aM l).length:=⟨_,rfl⟩;have hn1:n<=1000000:=by have:=nu.out.2.2;omega
 rw [<- hn] at hown3;obtain ⟨a3,c3,rfl⟩:=lu hown3;have DR:n<=c3/\c3<=maxLen:=by
  rcases hown3.2 with ⟨h1,h2⟩ | ⟨g,cap,cur,h1,_,_,h2,h3,_⟩
  ·simp at h1;omega
  ·simp at h1;exact ⟨by omega,by have:=h1.2;rw [this];exact h3⟩
 have hcap1:=DR.1;have hcap2:=DR.2;unfold maxLen at hcap2;have R0:Hid (Ic (aj.aM l) w3 (.int .i64 0) w3):=⟨0,X8 _,rfl,rfl,XT _ _⟩;have HN:=hid hn;have Kc:=hid hown3;have HR3:=hid (And.intro M5 h10);have B3:=hid (aL B2.out b3);have Vz:=hid (Pn.out.below b3);clear hn hown3 M5 h10 b3 x0 x1 Pn IC DR;go_wp2
 go_loopw [26] (fun vi wr=>Ic (aj.aM l) w3 vi wr) (fun vi _=>n-(intOf vi).toNat)
 case atStart=>exact R0.out
 case round=>
  clear R0;obtain ⟨k,hk,rfl,hany,hbel⟩:=hrel;have hkn:k<=n:=by have:=HN.out;omega
  by_cases hlt:k<n
  ·obtain ⟨y,hy⟩:∃ y,(aj.aM l)[k]?=some y:=⟨_,List.getElem?_eq_getElem (by have:=HN.out;omega)⟩;obtain ⟨yk,yt,yd,zA,zB,Tg,Ti,xW⟩:=y;have hrow:=Jo Kc.out hbel;rw [HN.out] at hrow;obtain ⟨g,cap,ac,nc,cc,ap,np,cp,aa,na,ca,ai,ni,ci,ak,nk,ck,hv3,c0,c1,c2',c3',c4,c5,c6,c7,c8,c9⟩:=F9 hrow HR3.out.1 HR3.out.2 hy;obtain ⟨rfl,rfl⟩:a3=some ⟨g,0,none⟩/\c3=cap:=by simp at hv3;exact ⟨hv3.1,hv3.2⟩
   have hsn:((aj.aM l).take (k+1)).any x9=x9 (.mk yk yt yd zA zB Tg Ti xW):=by rw [List.take_add_one,hy,List.any_append,hany];simp
   have uq:=hid hsn;have M6:=hid hbel;have VB:=hid (X9 hy);clear hany hy hrow hsn hbel hv3;rcases (by omega:yk=15\/yk=13\/yk=14\/(yk≠15/\yk≠13/\yk≠14)) with rfl | rfl | rfl | ⟨hy1,hy2,hy3⟩
   case' inr.inr.inr=>
    have f1:=beq_false_of_ne hy1;have f2:=beq_false_of_ne hy2;have f3:=beq_false_of_ne hy3;have hz:x9 (.mk yk yt yd zA zB Tg Ti xW)=false:=by show (decide (yk=15)||(decide (yk=13)||decide (yk=14)))=false;simp [hy1,hy2,hy3]
    have HZ:=hid hz;clear hy1 hy2 hy3 hz;go_wp2;go_roundw;case rel=>exact ⟨k+1,by have:=HN.out;omega,by go_num,by rw [uq.out,HZ.out],M6.out.alloc M6.out.size _⟩
    case measure=>simp [intOf];omega
   all_goals
    have HE:Hid (V=([],5)):=by show _=_;rw [HV.out,if_neg (fun e=>e HD.out),if_pos];exact List.any_eq_true.2 ⟨_,VB.out,rfl⟩
    have HF:=hid (aL B3.out M6.out);go_wp2
    go_ret2
    rw [HE.out];exact ⟨_,rfl,Rd.aJ _ _ _,HF.out.alloc HF.out.size _⟩
  ·have hkl:k=(aj.aM l).length:=by have:=HN.out;omega
   have hkn':k=n:=by omega
   rw [hkl,List.take_length] at hany;have CO:=hid (aL B3.out hbel);have Tj:=hid (Vz.out.below hbel);have zq:Hid (V=kL W l):=by show _=_;rw [HV.out,if_neg (fun e=>e HD.out),if_neg (by rw [hany];simp)]
   have x1:=Tj.out.cell 1 _ rfl;obtain ⟨m,hm⟩:∃ m,m=wr.heap.size:=⟨_,rfl⟩;obtain ⟨wm,Hz⟩:∃ wm,wm=wr.alloc (.cells #[.int .i64 W,.int .i64 0,.slice none 0 0,.int .i64 0,.bool false,.int .i64 0] 63):=⟨_,rfl⟩;have km:nN m W ⟨0,[],0,false,0⟩ (.slice none 0 0) wm:=⟨by rw [Hz,hm];exact CB.new _ _ _,⟨by simp,.inl ⟨rfl,rfl⟩⟩⟩;have bm:YK wr.heap.size wr wm:=by rw [Hz];exact (XT _ _).alloc (XU _) _
   have hin:lM m W wr ⟨0,[],0,false,0⟩ (.slice none 0 0) ⟨⟨#[]⟩,⟨#[]⟩⟩ (aj.bg l) wm:=⟨by omega,bm,km,⟨hW1,hW2⟩,⟨by show 0+_<=_;have:=zF.out;omega,by show 0+_<=_;have:=zF.out;omega,by have:=zF.out;simp;omega,by have:=zF.out;simp;omega,by have:=zF.out;simp;omega⟩,HT.out.below CO.out,HM.out.below CO.out⟩;have BC:=hid ((by rw [hm];exact HB.out HD.out hany wr CO.out:iR m W wr l) (.slice a2 nl c2) (H2.out.up CO.out) _ _ _ wm hin);have HG:=hid (oh W ⟨hW1,hW2⟩ l ⟨0,[],0,false,0⟩ ⟨⟨#[]⟩,⟨#[]⟩⟩);obtain ⟨r,hr⟩:∃ r,r=aj.gq W ⟨0,[],0,false,0⟩ ⟨⟨#[]⟩,⟨#[]⟩⟩ l:=⟨_,rfl⟩;have HE2:=hid (yc W l r hr);rw [<- hr] at BC HG;have QL:=hid (aL CO.out bm);have y1:=(Tj.out.below bm).cell 1 _ rfl;have VD:=hid hm;clear hkl hany hbel km bm hin hr;go_upto_region 16 with (fail)
   rw [<- Hz,<- hm];clear Hz hm;go_wp2_with fail
   (with_reducible refine BC.out.mono ?_)
   rintro e w5 ⟨v5,qR,lN,rfl,dS,hmk5,-,-,lQ⟩;obtain ⟨n5,uN⟩:∃ n5,n5=(r.1.map Bx.d).length:=⟨_,rfl⟩;obtain ⟨a5,c5,hv5⟩:=lu dS.own;rw [<- uN] at hv5;subst hv5;have J3:Hid (n5=r.1.length):=hid (by rw [uN,X0]);have MO:n5<=1000000:=by rw [J3.out];have:=HG.out.len;have:=zF.out;omega
   have hmw:w.heap.size<=m:=by rw [VD.out];exact CO.out.size
   have FZ:Hid (YK w.heap.size w w5):=QL.out.trans (lQ.below _ QL.out.size (fun b e=>by
    rcases e with e | e
    ·omega
    ·simp [Value.ownBlock] at e))
   have VE:Hid (Rd (w.heap.size<=·) w5 (.sl 6 (r.1.map Bx.d)) [.slice a5 n5 c5]):=by
    have h:=dS.2.rd;rw [dS.sz] at h;refine h.weaken (fun b hb=>?_);rcases hb with hb | hb
    ·simp [Value.ownBlock] at hb
    ·exact XV QL.out.size hb
   have f5:=hmk5.cb.cell 5 _ rfl;have ff:=rR hmk5.cb;clear dS hmk5 lQ uN hmw BC y1 x1;by_cases he:r.2.err=0
   ·have q4:(((r.2.err:Nat):Int)==0)=true:=by rw [he];rfl
    by_cases hcc:4096<n5
    ·have q5:decide ((4096:Int)<(n5:Int))=true:=by simp;omega
     have HE:Hid (V=([],3)):=by show _=_;rw [zq.out,HE2.out,if_neg (fun e=>e he),if_pos (by rw [<- J3.out];exact hcc)]
     clear he hcc;go_wp2
     go_ret2
     rw [HE.out];exact ⟨_,rfl,Rd.aJ _ _ _,FZ.out⟩
    ·have q5:decide ((4096:Int)<(n5:Int))=false:=by simp;omega
     have HE:Hid (V=(r.1,0)):=by show _=_;rw [zq.out,HE2.out,if_neg (fun e=>e he),if_neg (by rw [<- J3.out];exact hcc)]
     clear he hcc;go_wp2
     go_ret2
     rw [HE.out];exact ⟨_,rfl,VE.out,FZ.out⟩
   ·have q4:(((r.2.err:Nat):Int)==0)=false:=by simp;omega
    have HE:Hid (V=([],r.2.err)):=by show _=_;rw [zq.out,HE2.out,if_pos he]
    clear he;go_wp2_with fail
    go_quiet (fail)
    go_wp2
    go_ret2
    rw [HE.out];exact ⟨_,rfl,Rd.aJ _ _ _,q01 FZ.out _⟩
deriving instance DecidableEq for Bx
def wW (t:ByteArray):ah:=.mk 1 t ⟨#[]⟩ ⟨#[]⟩ ⟨⟨#[]⟩,[],[]⟩ [] [] []
def AX (k lv:Int) (id:ByteArray) (li:List ah) (ks:List aj):aj:=.mk k lv ⟨#[]⟩ ⟨#[]⟩ ⟨#[]⟩ ⟨#[]⟩ ⟨id,[],[]⟩ li ks
def Ls (t:ByteArray):aj:=AX 1 0 ⟨#[]⟩ [wW t] []
def Ke:List aj:=[AX 2 1 ⟨#[97]⟩ [wW ⟨#[65]⟩] [],Ls ⟨#[98]⟩]
def Ie:List aj:=[AX 6 0 ⟨#[]⟩ [] [AX 7 0 ⟨#[]⟩ [] [AX 9 0 ⟨#[]⟩ [] [Ls ⟨#[97]⟩]]]]
def Kg:List aj:=[Ls ⟨#[109,32,109,32,109]⟩]
def Fh:List Bx:=[⟨⟨#[65]⟩,2,0,true,false,[⟨#[97]⟩]⟩,⟨⟨#[98]⟩,1,1,false,false,[]⟩]
def Lu:List Bx:=[⟨⟨#[62,32,45,32,97]⟩,1,0,false,false,[]⟩]
def Lv:List Bx:=[⟨⟨#[109]⟩,1,0,true,false,[]⟩,⟨⟨#[109]⟩,1,0,true,false,[]⟩,⟨⟨#[109]⟩,1,0,false,false,[]⟩]
theorem M7:F8 (fun _=>true) 1000 [] Ke=(Fh,0):=by decide +kernel
theorem M8:F8 (fun _=>true) 1000 [] Ie=(Lu,0):=by decide +kernel
theorem M9:F8 (fun _=>true) 85 [] Kg=(Lv,0):=by decide +kernel
theorem Na:cO Fh=0:=by decide +kernel
theorem Nb:cO [⟨⟨#[]⟩,0,0,false,false,[]⟩]=9:=by decide +kernel
open Go.RowKit
theorem AY (m:Nat) (W:Int) (w0:YJ) (st:St) (vp:YL) (p:Px) (lv:Int) (i t d ti:ByteArray) (at_:At) (li:List ah) (ks:List aj) (vc pY vl vk:YL) (w:YJ) (hin:lM m W w0 st vp p (aj.mk 6 lv i t d ti at_ li ks).mg w) (hR:wS (·<w0.heap.size) w0 at_ li ks vc pY vl vk) (hB:iR m W w0 ks) : Calls Tryz.prog 44 #[.pointer (some ⟨m,0,none⟩),.agg #[.int .i64 6,.int .i64 lv,.string i,.string t,.string d,.string ti,.string at_.id,vc,pY,vl,vk],.agg #[.string p.first,.string p.rest]] w (bT m W w vp (aj.iF W st p (.mk 6 lv i t d ti at_ li ks))):=by
 obtain ⟨ac,nc,cc,rfl⟩:=Rd.au hR.at_.cls
 obtain ⟨ap,np,cp,rfl⟩:=Rd.au hR.at_.aS
 obtain ⟨al,nl,cl,rfl⟩:=Rd.au hR.line;obtain ⟨ak,nk,ck,rfl⟩:=Rd.au hR.kids;obtain ⟨S,q,w3,hS,hq,hw3,kb,kp,kl,b3,z3⟩:=Dj w [.int .i64 6,.int .i64 lv,.string i,.string t,.string d,.string ti,.string at_.id,.slice ac nc cc,.slice ap np cp,.slice al nl cl,.slice ak nk ck] p.first p.rest
 have hv:(aj.mk 6 lv i t d ti at_ li ks).mg=30+i.size+2*t.size+2*(ah.aA li).length+(iy (ah.aD li)).length+aj.bg ks:=by rw [aj.mg]
 have hfit:=hin.fit;rw [hv] at hfit;obtain ⟨g1,g2,g3,g4,g5⟩:=hfit;have Mw:=hid (hin.up b3);have HR:=hid hR;have KB:=hid kb;have KP:=hid kp;have B3:=hid b3;have HS:=hid hS;have d0:=kb.cell 0 _ rfl;have e0:=kp.cell 0 _ rfl;have e1:=kp.cell 1 _ rfl;have d10:=kb.cell 10 _ rfl;have HE:Hid (aj.iF W st p (.mk 6 lv i t d ti at_ li ks)=aj.gq W st ⟨p.first++⟨#[62,32]⟩,p.rest++⟨#[62,32]⟩⟩ ks):=by show _=_;rw [aj.iF];rfl
 have s2:(ByteArray.mk #[62,32]).size=2:=rfl;have BC:=hid (hB (.slice ak nk ck) hR.kids st vp ⟨p.first++⟨#[62,32]⟩,p.rest++⟨#[62,32]⟩⟩ w3 ⟨hin.m0,(hin.up b3).b0,(hin.up b3).uJ,hin.wd,⟨by show (p.first++_).size+_<=_;rw [ByteArray.size_append];omega,by show (p.rest++_).size+_<=_;rw [ByteArray.size_append];omega,by omega,by omega,by omega⟩,hin.tab,hin.ml⟩);clear hB s2;clear kb kp kl b3 z3 hv g3 g4 g5 hR hin;go_enter Tryz.func44,Tryz.ntmps44;go_upto_region 2 with (fail)
 rw [<- hw3,<- hS,<- hq];clear hw3 hS hq;go_wp2_with fail
 (with_reducible refine BC.out.mono ?_)
 rintro e w5 h5;have HP:=hid (h5.from_ B3.out);obtain ⟨v5,qR,lN,rfl,Hf,-⟩:=h5;obtain ⟨a5,n5,c5,hv5⟩:∃ a n c,v5=.slice a n c:=by obtain ⟨a,c,e⟩:=lu Hf.own;exact ⟨a,_,c,e⟩
 subst hv5;clear Hf;go_wp2;go_ret;rw [HE.out];exact HP.out
theorem DT (m:Nat) (W:Int) (w0:YJ) (st:St) (vp:YL) (p:Px) (k lv:Int) (i t d ti:ByteArray) (at_:At) (li:List ah) (ks:List aj) (vc pY vl vk:YL) (w:YJ) (hin:lM m W w0 st vp p (aj.mk k lv i t d ti at_ li ks).mg w) (hR:wS (·<w0.heap.size) w0 at_ li ks vc pY vl vk) (hk:k=7\/k=8) (hlv:k=8->0<=lv/\lv<=999999999) (hB:∀ x∈ks,iR m W w0 (DF x)) (hG:∀ x∈ks,Hy W x) (MU:k=8->PT w0) : Calls Tryz.prog 44 #[.pointer (some ⟨m,0,none⟩),.agg #[.int .i64 k,.int .i64 lv,.string i,.string t,.string d,.string ti,.string at_.id,vc,pY,vl,vk],.agg #[.string p.first,.string p.rest]] w (bT m W w vp (aj.iF W st p (.mk k lv i t d ti at_ li ks))):=by
 obtain ⟨ac,nc,cc,rfl⟩:=Rd.au hR.at_.cls
 obtain ⟨ap,np,cp,rfl⟩:=Rd.au hR.at_.aS
 obtain ⟨al,nl,cl,rfl⟩:=Rd.au hR.line;obtain ⟨ak,nk,ck,rfl⟩:=Rd.au hR.kids;obtain ⟨S,q,w3,hS,hq,hw3,kb,kp,kl,b3,z3⟩:=Dj w [.int .i64 k,.int .i64 lv,.string i,.string t,.string d,.string ti,.string at_.id,.slice ac nc cc,.slice ap np cp,.slice al nl cl,.slice ak nk ck] p.first p.rest
 have hv:(aj.mk k lv i t d ti at_ li ks).mg=30+i.size+2*t.size+2*(ah.aA li).length+(iy (ah.aD li)).length+aj.bg ks:=by rw [aj.mg]
 have hfit:=hin.fit;rw [hv] at hfit;obtain ⟨g1,g2,g3,g4,g5⟩:=hfit;have Mw:=hid (hin.up b3);have HR:=hid hR;have KB:=hid kb;have KP:=hid kp;have B3:=hid b3;have HS:=hid hS;have d0:=kb.cell 0 _ rfl;have e0:=kp.cell 0 _ rfl;have e1:=kp.cell 1 _ rfl;have HE:Hid (aj.iF W st p (.mk k lv i t d ti at_ li ks)=aj.mQ W st p k lv 0 ks):=by show _=_;rw [aj.iF];rcases hk with rfl | rfl<;>rfl
 have IC:=hid (AQ m W w0 k lv i t d ti at_ li ks (.slice ac nc cc) (.slice ap np cp) (.slice al nl cl) (.slice ak nk ck) hk hlv hR hB hG MU st vp p w3 ⟨hin.m0,(hin.up b3).b0,(hin.up b3).uJ,hin.wd,⟨by omega,by omega,by omega,by omega,by omega⟩,hin.tab,hin.ml⟩);have d1:=kb.cell 1 _ rfl;have d2:=kb.cell 2 _ rfl;have d3:=kb.cell 3 _ rfl;have d4:=kb.cell 4 _ rfl;have d5:=kb.cell 5 _ rfl;have d6:=kb.cell 6 _ rfl;have d7:=kb.cell 7 _ rfl;have d8:=kb.cell 8 _ rfl;have d9:=kb.cell 9 _ rfl;have d10:=kb.cell 10 _ rfl;clear hB hG MU hlv;clear kb kp kl b3 z3 hv g3 g4 g5 hR hin;go_enter Tryz.func44,Tryz.ntmps44;go_upto_region 2 with (fail)
 rw [<- hw3,<- hS,<- hq];clear hw3 hS hq;rcases hk with rfl | rfl
 all_goals
  go_wp2_with fail
  (with_reducible refine IC.out.mono ?_)
  rintro e w5 h5;have HP:=hid (h5.from_ B3.out);obtain ⟨v5,qR,lN,rfl,Hf,-⟩:=h5;obtain ⟨a5,n5,c5,hv5⟩:∃ a n c,v5=.slice a n c:=by obtain ⟨a,c,e⟩:=lu Hf.own;exact ⟨a,_,c,e⟩
  subst hv5;clear Hf;go_wp2;go_ret;rw [HE.out];exact HP.out
open Go.RowKit
theorem Rd.zG {ok:Nat->Prop} {w:YJ} {k:Nat} {l:List D} {rows:List (List YL)} {b cap:Nat} (hl:l.length<=cap) (hm:cap<=maxLen) (h:aH ok w l rows) (hk:∀ r∈rows,r.length=k) (hok:ok b) (hb:b<w.heap.size) (hc:∀ j u,rows.flatten[j]?=some u->w.cell? ⟨b,j,none⟩=some u):Rd ok w (.sl k l) [.slice (some ⟨b,0,none⟩) l.length cap]:=by unfold Rd;exact ⟨_,cap,rows,rfl,hl,hm,h,hk,.inr ⟨b,0,rfl,hok,hb,fun j u hu=>by rw [Nat.zero_add];exact hc j u hu⟩⟩
def yE (t:ByteArray):List YL:=[.int .i64 1,.string t,.string ⟨#[]⟩,.string ⟨#[]⟩,.string ⟨#[]⟩,.slice none 0 0,.slice none 0 0,.slice none 0 0,.slice none 0 0,.slice none 0 0]
def iC (k lv:Int) (id:ByteArray) (vl vk:YL):List YL:=[.int .i64 k,.int .i64 lv,.string ⟨#[]⟩,.string ⟨#[]⟩,.string ⟨#[]⟩,.string ⟨#[]⟩,.string id,.slice none 0 0,.slice none 0 0,vl,vk]
theorem Kh (ok:Nat->Prop) (w:YJ) (t:ByteArray):Rd ok w (wW t).d (yE t):=ah.mO 1 t ⟨#[]⟩ ⟨#[]⟩ ⟨⟨Rd.aJ _ _ _,Rd.aJ _ _ _⟩,Rd.aJ _ _ _,Rd.aJ _ _ _,Rd.aJ _ _ _⟩
theorem jO {ok:Nat->Prop} {w:YJ} (k lv:Int) (id:ByteArray) {li:List ah} {ks:List aj} {vl vk:YL} (h:Rd ok w (fC li) [vl]) (h2:Rd ok w (aY ks) [vk]):Rd ok w (AX k lv id li ks).d (iC k lv id vl vk):=aj.mO k lv ⟨#[]⟩ ⟨#[]⟩ ⟨#[]⟩ ⟨#[]⟩ ⟨⟨Rd.aJ _ _ _,Rd.aJ _ _ _⟩,h,h2⟩
theorem rZ {w:YJ} {p:Nat} {t:ByteArray} (k:CB 52 p (yE t) w) (ok:Nat->Prop) (h:ok p):Rd ok w (fC [wW t]) [.slice (some ⟨p,0,none⟩) 1 1]:=
 Rd.zG (l:=[wW t].map ah.d) (rows:=[yE t]) (by simp) (by unfold maxLen;decide) (aH.one (Kh _ _ _)) (by simp [yE]) h k.lt (fun j u hu=>k.cell j u (by simpa using hu))
theorem uU {ok:Nat->Prop} {w:YJ} {p:Nat} {x:aj} {cs:List YL} (h:Rd ok w x.d cs) (hl:cs.length=11) (k:CB 47 p cs w) (hp:ok p):Rd ok w (aY [x]) [.slice (some ⟨p,0,none⟩) 1 1]:=
 Rd.zG (l:=[x].map aj.d) (rows:=[cs]) (by simp) (by unfold maxLen;decide) (aH.one h) (by simpa using hl) hp k.lt (fun j u hu=>k.cell j u (by simpa using hu))
theorem Nc {ok:Nat->Prop} {w:YJ} {p:Nat} {x y:aj} {cs ds:List YL} (h:Rd ok w x.d cs) (hl:cs.length=11) (h2:Rd ok w y.d ds) (hl2:ds.length=11) (k:CB 47 p (cs++ds) w) (hp:ok p):Rd ok w (aY [x,y]) [.slice (some ⟨p,0,none⟩) 2 2]:=
 Rd.zG (l:=[x,y].map aj.d) (rows:=[cs,ds]) (by simp) (by unfold maxLen;decide) (aH.cons h (aH.one h2)) (by simp [hl,hl2]) hp k.lt (fun j u hu=>k.cell j u (by simpa using hu))
theorem sj (m:Nat) (W:Int) (w0:YJ) (k lv:Int) (id t:ByteArray) (hk:k=1\/k=2) (hsh:(ah.aA [wW t]).length<=100000) (hle:iN [wW t]=0) (Pb:(iy (ah.aD [wW t])).length<=100000):MH m W w0 (AX k lv id [wW t] []):=
 fun vc pY vl vk hR st vp p w hin=>Dm m W w0 st vp p k lv ⟨#[]⟩ ⟨#[]⟩ ⟨#[]⟩ ⟨#[]⟩ ⟨id,[],[]⟩ [wW t] [] vc pY vl vk w (by omega) hin hR hsh hle (by decide) Pb
theorem Nf (m:Nat) (w0:YJ):iR m 1000 w0 Ke:=
 iU m 1000 w0 Ke (fun x hx=>by
  rcases List.mem_cons.1 hx with rfl | hx
  ·exact sj m 1000 w0 2 1 _ _ (.inr rfl) (by decide +kernel) (by decide +kernel) (by decide +kernel)
  ·obtain rfl:=List.mem_singleton.1 hx;exact sj m 1000 w0 1 0 _ _ (.inl rfl) (by decide +kernel) (by decide +kernel) (by decide +kernel)) (fun x _=>qW 1000 (by decide) x)
theorem Ng (m:Nat) (w0:YJ):iR m 85 w0 Kg:=
 iU m 85 w0 Kg (fun x hx=>by
  obtain rfl:=List.mem_singleton.1 hx;exact sj m 85 w0 1 0 _ _ (.inl rfl) (by decide +kernel) (by decide +kernel) (by decide +kernel)) (fun x _=>qW 85 (by decide) x)
def Po:List aj:=[Ls ⟨#[97]⟩]
def QM:List aj:=[AX 9 0 ⟨#[]⟩ [] Po]
def Pp:List aj:=[AX 7 0 ⟨#[]⟩ [] QM]
theorem Nh (m:Nat) (w0:YJ):iR m 1000 w0 Po:=
 iU m 1000 w0 Po (fun x hx=>by
  obtain rfl:=List.mem_singleton.1 hx;exact sj m 1000 w0 1 0 _ _ (.inl rfl) (by decide +kernel) (by decide +kernel) (by decide +kernel)) (fun x _=>qW 1000 (by decide) x)
theorem Ni (m:Nat) (w0:YJ):iR m 1000 w0 Pp:=
 iU m 1000 w0 Pp (fun x hx=>by
  obtain rfl:=List.mem_singleton.1 hx;exact fun vc pY vl vk hR st vp p w hin=>DT m 1000 w0 st vp p 7 0 ⟨#[]⟩ ⟨#[]⟩ ⟨#[]⟩ ⟨#[]⟩ ⟨⟨#[]⟩,[],[]⟩ [] QM vc pY vl vk w hin hR (.inl rfl) (by omega) (fun y hy=>by
   obtain rfl:=List.mem_singleton.1 hy;exact Nh m w0) (fun y _=>Ib 1000 (by decide) y) (by omega)) (fun x _=>qW 1000 (by decide) x)
theorem Nj (m:Nat) (w0:YJ):iR m 1000 w0 Ie:=
 iU m 1000 w0 Ie (fun x hx=>by
  obtain rfl:=List.mem_singleton.1 hx;exact fun vc pY vl vk hR st vp p w hin=>AY m 1000 w0 st vp p 0 ⟨#[]⟩ ⟨#[]⟩ ⟨#[]⟩ ⟨#[]⟩ ⟨⟨#[]⟩,[],[]⟩ [] Pp vc pY vl vk w hin hR (Ni m w0)) (fun x _=>qW 1000 (by decide) x)
theorem zH (id:ByteArray) (h:id.size<=300):At.short ⟨id,[],[]⟩:=⟨by simp,by simp,XV h (by decide),by simp,by simp⟩
theorem qX (t:ByteArray) (h:t.size<=300):ah.aK [wW t]:=by
 have h1:=zH ⟨#[]⟩ (by decide);have h4:(⟨#[]⟩:ByteArray).size<=300:=by decide
 simp [wW,ah.aK,ah.small,h1,h,h4]
theorem zI (t:ByteArray):ah.aV [wW t]=1:=by simp [wW,ah.aV,ah.sz]
theorem kM (k lv:Int) (id:ByteArray) (li:List ah) (ks:List aj) (hi:id.size<=300) (h:ah.aK li) (h1:ah.aV li<=120) (h2:aj.aK ks):aj.aK [AX k lv id li ks]:=by
 have h3:=zH id hi;have h4:(⟨#[]⟩:ByteArray).size<=300:=by decide
 simp [AX,aj.aK,aj.small,h1,h2,h3,h4,h]
theorem DU (t:ByteArray) (h:t.size<=300):aj.aK [Ls t]:=kM 1 0 _ _ _ (by decide) (qX t h) (by rw [zI];decide) (by rw [aj.aK];trivial)
theorem Ig (t:ByteArray):ah.jN [wW t]:=by simp [wW,ah.jN,ah.bd]
theorem DV (k lv:Int) (id:ByteArray) (li:List ah) (ks:List aj) (h:ah.jN li) (h1:ah.aV li<=120) (h2:aj.jN ks):aj.jN [AX k lv id li ks]:=by
 have h3:ah.aV li<=1000000:=by omega
 simp [AX,aj.jN,aj.bd,h,h2,h3]
theorem DW (t:ByteArray):aj.jN [Ls t]:=DV 1 0 _ _ _ (Ig t) (by rw [zI];decide) (by rw [aj.jN];trivial)
theorem jP:ah.aK []:=by rw [ah.aK];trivial
theorem su:ah.jN []:=by rw [ah.jN];trivial
theorem uV (x y:aj) (h1:aj.aK [x]) (h2:aj.aK [y]):aj.aK [x,y]:=by rw [aj.aK] at h1 ⊢;exact ⟨h1.1,h2⟩
theorem DX (x y:aj) (h1:aj.jN [x]) (h2:aj.jN [y]):aj.jN [x,y]:=by rw [aj.jN] at h1 ⊢;exact ⟨h1.1,h2⟩
def Lx (_:ByteArray):Bool:=true
theorem Ga (w:YJ) (ab:Option Addr) (nb cb:Nat) (h:Rd (·<w.heap.size) w (aY Ke) [.slice ab nb cb]) (ht:TabAt w) (hml:kG w) : Calls Tryz.prog 11 #[.agg #[.slice none 0 0,.slice ab nb cb],.int .i64 1000] w (Pm (Fh,0) w):=by
 have e:F8 Lx 1000 [] Ke=(Fh,0):=M7;rw [<- e];exact om Lx 1000 [] Ke none ab 0 nb cb w (by decide) (by simp) (by simp) (by decide +kernel) (uV _ _ (kM 2 1 _ _ _ (by decide) (qX _ (by decide)) (by rw [zI];decide) (by rw [aj.aK];trivial)) (DU _ (by decide))) (fun e=>absurd e (by decide +kernel))
  (DX _ _ (DV 2 1 _ _ _ (Ig _) (by rw [zI];decide) (by rw [aj.jN];trivial)) (DW _)) (by decide +kernel) (by decide +kernel) (by decide +kernel) (Rd.aJ _ _ _) h (fun _ _ wz _=>Nf _ wz) ht hml
theorem Gb (w:YJ) (ab:Option Addr) (nb cb:Nat) (h:Rd (·<w.heap.size) w (aY Ie) [.slice ab nb cb]) (ht:TabAt w) (hml:kG w) : Calls Tryz.prog 11 #[.agg #[.slice none 0 0,.slice ab nb cb],.int .i64 1000] w (Pm (Lu,0) w):=by
 have e:F8 Lx 1000 [] Ie=(Lu,0):=M8;rw [<- e];have z:ah.aV []<=120:=by decide +kernel
 exact om Lx 1000 [] Ie none ab 0 nb cb w (by decide) (by simp) (by simp) (by decide +kernel) (kM 6 0 _ _ _ (by decide) jP z (kM 7 0 _ _ _ (by decide) jP z (kM 9 0 _ _ _ (by decide) jP z (DU _ (by decide))))) (fun e=>absurd e (by decide +kernel))
  (DV 6 0 _ _ _ su z (DV 7 0 _ _ _ su z (DV 9 0 _ _ _ su z (DW _)))) (by decide +kernel) (by decide +kernel) (by decide +kernel) (Rd.aJ _ _ _) h (fun _ _ wz _=>Nj _ wz) ht hml
theorem Gc (w:YJ) (ab:Option Addr) (nb cb:Nat) (h:Rd (·<w.heap.size) w (aY Kg) [.slice ab nb cb]) (ht:TabAt w) (hml:kG w) : Calls Tryz.prog 11 #[.agg #[.slice none 0 0,.slice ab nb cb],.int .i64 85] w (Pm (Lv,0) w):=by have e:F8 Lx 85 [] Kg=(Lv,0):=M9;rw [<- e];exact om Lx 85 [] Kg none ab 0 nb cb w (by decide) (by simp) (by simp) (by decide +kernel) (DU _ (by decide)) (fun e=>absurd e (by decide +kernel)) (DW _) (by decide +kernel) (by decide +kernel) (by decide +kernel) (Rd.aJ _ _ _) h (fun _ _ wz _=>Ng _ wz) ht hml
open Go.RowKit
def qc (p:Nat):List YL:=iC 1 0 ⟨#[]⟩ (.slice (some ⟨p,0,none⟩) 1 1) (.slice none 0 0)
def DY (t:ByteArray) (w:YJ) (e:Ending) (w':YJ):Prop:=
 ∃ p,e=.returned (.agg (qc p).toArray)/\w.heap.size<=p/\CB 52 p (yE t) w'/\YK w.heap.size w w'
theorem Nk (t:ByteArray) (w:YJ):∃ S W1,S=w.heap.size/\W1=(w.alloc (.cells (iC 0 0 ⟨#[]⟩ (.slice none 0 0) (.slice none 0 0)).toArray 47)).alloc (.cells (yE t).toArray 52)/\CB 47 S (iC 0 0 ⟨#[]⟩ (.slice none 0 0) (.slice none 0 0)) W1 /\ CB 47 S (qc (S+1)) (oq W1 S 0 (qc (S+1)))/\DY t w (.returned (.agg (qc (S+1)).toArray)) (oq W1 S 0 (qc (S+1))):=by
 obtain ⟨S,hS⟩:∃ S,S=w.heap.size:=⟨_,rfl⟩;obtain ⟨W1,hW⟩:∃ W1,W1=(w.alloc (.cells (iC 0 0 ⟨#[]⟩ (.slice none 0 0) (.slice none 0 0)).toArray 47)).alloc (.cells (yE t).toArray 52):=⟨_,rfl⟩;have z:(w.alloc (.cells (iC 0 0 ⟨#[]⟩ (.slice none 0 0) (.slice none 0 0)).toArray 47)).heap.size=S+1:=by rw [World.size_alloc,hS]
 have k0:CB 47 S (iC 0 0 ⟨#[]⟩ (.slice none 0 0) (.slice none 0 0)) W1:=by rw [hW,hS];exact (CB.new _ _ w).below ((XT _ _).alloc (XU _) _)
 have k1:CB 52 (S+1) (yE t) W1:=by rw [hW,<- z];exact CB.new _ _ _
 have b1:YK w.heap.size w W1:=by rw [hW];exact ((XT _ _).alloc (XU _) _).alloc (by rw [z];omega) _
 refine ⟨S,W1,hS,hW,k0,?_,S+1,rfl,by omega,(oz S _ _ _ _ (by omega)).trans k1,?_⟩
 ·exact qI (qI (qI (qI (qI (qI (qI (qI (qI (qI (qI k0 0 _) 1 _) 2 _) 3 _) 4 _) 5 _) 6 _) 7 _) 8 _) 9 _) 10 _
 ·have hs:=Nat.le_of_eq hS.symm;exact ((((((((((b1.setCell (p:=⟨S,0,none⟩) hs _).setCell (p:=⟨S,1,none⟩) hs _).setCell (p:=⟨S,2,none⟩) hs _).setCell (p:=⟨S,3,none⟩) hs _).setCell (p:=⟨S,4,none⟩) hs _).setCell (p:=⟨S,5,none⟩) hs _).setCell (p:=⟨S,6,none⟩) hs _).setCell (p:=⟨S,7,none⟩) hs _).setCell (p:=⟨S,8,none⟩) hs _).setCell (p:=⟨S,9,none⟩) hs _).setCell (p:=⟨S,10,none⟩) hs _
theorem yu (t:ByteArray) (w:YJ):Calls Tryz.prog 14 #[.string t] w (DY t w):=by
 obtain ⟨S,W1,hS,hW,k0,k1,hP⟩:=Nk t w;obtain ⟨w9,AZ⟩:∃ w9,w9=oq W1 S 0 (qc (S+1)):=⟨_,rfl⟩;obtain ⟨w0,hw0⟩:∃ w0,w0=w.alloc (.cells (iC 0 0 ⟨#[]⟩ (.slice none 0 0) (.slice none 0 0)).toArray 47):=⟨_,rfl⟩;have z0:w0.heap.size=S+1:=by rw [hw0,World.size_alloc,hS]
 rw [<- AZ] at k1 hP;rw [<- hw0] at hW;have HP:=hid hP;have K1:=hid k1;have HZ:=hid z0;have r0:=k0.cell 0 _ rfl;have r1:=k0.cell 1 _ rfl;have r2:=k0.cell 2 _ rfl;have r3:=k0.cell 3 _ rfl;have r4:=k0.cell 4 _ rfl;have r5:=k0.cell 5 _ rfl;have r6:=k0.cell 6 _ rfl;have r7:=k0.cell 7 _ rfl;have r8:=k0.cell 8 _ rfl;have r9:=k0.cell 9 _ rfl;have Nl:=k0.cell 10 _ rfl;have g0:=rR k0 0;have g1:=rR k0 1;have g2:=rR k0 2;have g3:=rR k0 3;have g4:=rR k0 4;have g5:=rR k0 5;have g6:=rR k0 6;have g7:=rR k0 7;have g8:=rR k0 8;have g9:=rR k0 9;have g10:=rR k0 10;simp only [qc,iC,oq] at AZ;simp only [yE] at hW;subst hW;simp only [iC] at hw0;clear hP k0 k1 z0;go_enter Tryz.func14,Tryz.ntmps14;go_upto_region 1 with (fail)
 rw [<- hw0,<- hS];clear hw0 hS;go_wp2;simp only [HZ.out];rw [<- AZ];clear AZ r0 r1 r2 r3 r4 r5 r6 r7 r8 r9 Nl;have r0:=K1.out.cell 0 _ rfl;have r1:=K1.out.cell 1 _ rfl;have r2:=K1.out.cell 2 _ rfl;have r3:=K1.out.cell 3 _ rfl;have r4:=K1.out.cell 4 _ rfl;have r5:=K1.out.cell 5 _ rfl;have r6:=K1.out.cell 6 _ rfl;have r7:=K1.out.cell 7 _ rfl;have r8:=K1.out.cell 8 _ rfl;have r9:=K1.out.cell 9 _ rfl;have Nl:=K1.out.cell 10 _ rfl;exact bodyPost_ret (v:=.agg (qc (S+1)).toArray) (by simp [qc,iC,results,Tryz.results14,go_sem,r0,r1,r2,r3,r4,r5,r6,r7,r8,r9,Nl]) rfl HP.out
end Go.Proofs.YtnmldmofggkoeaaGreatDoor

