/- publisherlaw39.BoxesWords: its argument read, and the law's walk. -/
import Derived.Test.YtnmldmofggkoeaaGreatDoorKPlBw
set_option maxHeartbeats 8000000
set_option maxRecDepth 100000
open Go.Lib (hid)
namespace Go.Proofs.YtnmldmofggkoeaaGreatDoor
open List renaming getElem?_eq_getElem->YG,length_append->YM,mem_of_getElem?->YT,getElem?_map->YZ,take_add_one->Y1
open Nat renaming zero_le->YS
open Go.RowKit
set_option linter.unusedVariables false
set_option linter.unusedSimpArgs false
def Nq (l:List Int):D:=.sl 1 (l.map (D.int .u8))
def DR (l:List (List Int)):D:=.sl 1 (l.map Nq)
def Gh (l:List Int):Prop:=∀ n∈l,0<=n/\n<=255
section
variable {H:Type} {enc:TypeId × Value->H} {w:World} {base:Nat} {spare:Nat->Bool} {held:Bool} {fuel:Nat} {cs:List Value} {x:DataW H × List MemPlace}
theorem Wp:Tryz.prog.cellsOf 5=1:=by kernel_rfl
theorem Wq:Tryz.prog.cellsOf 42=1:=by kernel_rfl
theorem Kv (h:DataW.trod enc Tryz.prog w base spare held fuel 42 cs=some x) (hw:Gi Tryz.prog 42 x.1):∃ l:List Int,Gh l/\Rd (·<w.heap.size) w (Nq l) cs:=by
 obtain ⟨l,h1,h2,h3⟩:=uY (D.int .u8) (fun n=>0<=n/\n<=255) Tryz.underlying42 Wp (by decide) (fun n cs' y _ hy Ua=>by
  obtain ⟨s,rfl,rfl,hs⟩:=DataW.trod_int Tryz.underlying5 hy;exact ⟨s,bounds_u8 hs,Rd.lT _ _ _ _⟩) h hw
 exact ⟨l,h1,h3⟩
theorem DT (h:DataW.trod enc Tryz.prog w base spare held fuel 41 cs=some x) (hw:Gi Tryz.prog 41 x.1):∃ l:List (List Int),(∀ r∈l,Gh r)/\Rd (·<w.heap.size) w (DR l) cs:=by obtain ⟨l,h1,h2,h3⟩:=uY Nq Gh Tryz.underlying41 Wq (by decide) (fun n cs' y _ hy Ua=>Kv hy Ua) h hw;exact ⟨l,h1,h3⟩
end
theorem DU {ok:Nat->Prop} {w:World} {l:List (List Int)} {a:Option Addr} {cap:Nat} (h:jV ok w 1 (l.map Nq) a cap) {k:Nat} {y:List Int} (hy:l[k]?=some y) : ∃ b off v,a=some ⟨b,off,none⟩/\b<w.heap.size/\w.cell? ⟨b,off+k,none⟩=some v/\Rd ok w (Nq y) [v]:=by
 obtain ⟨b,off,ha,hok,hb,hc⟩:=h.at_ (by have:=(List.getElem?_eq_some_iff.1 hy).1;simpa using Nat.lt_of_le_of_lt (YS _) this)
 obtain ⟨r,hr,hl,hcell⟩:=hc k _ (by rw [YZ,hy];rfl);obtain ⟨v,rfl,hr⟩:=Rd.gQ hr;have:=hcell 0 _ rfl;rw [Nat.mul_one,Nat.add_zero] at this;exact ⟨b,off,v,ha,hb,this,hr⟩
theorem Nr {ok:Nat->Prop} {w:World} {l:List Int} {a:Option Addr} {cap:Nat} (h:jV ok w 1 (l.map (D.int .u8)) a cap) {k:Nat} {y:Int} (hy:l[k]?=some y) : ∃ b off,a=some ⟨b,off,none⟩/\w.cell? ⟨b,off+k,none⟩=some (.int .u8 y):=by
 obtain ⟨b,off,ha,hok,hb,hc⟩:=h.at_ (by have:=(List.getElem?_eq_some_iff.1 hy).1;simpa using Nat.lt_of_le_of_lt (YS _) this)
 obtain ⟨r,hr,hl,hcell⟩:=hc k _ (by rw [YZ,hy];rfl);obtain rfl:=hr.fV;have:=hcell 0 _ rfl;rw [Nat.mul_one,Nat.add_zero] at this;exact ⟨b,off,ha,this⟩
def Ns (n:Int):UInt8:=UInt8.ofNat (97+n.toNat%26)
def w8 (l:List Int) (k:Nat):List UInt8:=119::(l.take k).map Ns
def fC (l:List Int):List UInt8:=w8 l (min l.length 10)
def sL (l:List (List Int)):List UInt8:=l.flatMap fun r=>fC r++[32]
def aL (l:List (List Int)):List UInt8:=l.flatMap fC
def jR (l:List UInt8):ByteArray:=⟨l.toArray⟩
theorem fD (a b:List UInt8):jR a++jR b=jR (a++b):=Bd a b
theorem Kw (n:Int):97<=(Ns n).toNat/\(Ns n).toNat<=122:=by unfold Ns;rw [UInt8.toNat_ofNat'];have:n.toNat%26<26:=Nat.mod_lt _ (by decide);omega
theorem DV (l:List Int) (k:Nat):(w8 l k).length<=k+1:=by unfold w8;simp;omega
theorem IE (l:List Int) (k:Nat):∀ c∈w8 l k,97<=c.toNat/\c.toNat<=122:=by
 intro c hc;unfold w8 at hc;rcases List.mem_cons.1 hc with rfl | hc
 ·decide
 ·obtain ⟨n,_,rfl⟩:=List.mem_map.1 hc;exact Kw n
theorem Gj {l:List Int} {k:Nat} {n:Int} (h:l[k]?=some n):w8 l (k+1)=w8 l k++[Ns n]:=by unfold w8;rw [Y1,h];simp
theorem rA (l:List Int):(fC l).length<=11:=by have:=DV l (min l.length 10);unfold fC;omega
theorem Gl {l:List (List Int)} {k:Nat} {r:List Int} (h:l[k]?=some r):sL (l.take (k+1))=sL (l.take k)++fC r++[32]:=by unfold sL;rw [Y1,h,List.flatMap_append];simp
theorem Gm {l:List (List Int)} {k:Nat} {r:List Int} (h:l[k]?=some r):aL (l.take (k+1))=aL (l.take k)++fC r:=by unfold aL;rw [Y1,h,List.flatMap_append];simp
theorem yw:∀ (l:List (List Int)),(sL l).length<=12*l.length
 | []=>by simp [sL]
 | r::l=>by
  have h:=yw l;have h2:=rA r;unfold sL at h ⊢;rw [List.flatMap_cons,YM,YM,List.length_cons];simp only [List.length_cons,List.length_nil];omega
theorem DW:∀ (l:List (List Int)),(aL l).length<=12*l.length
 | []=>by simp [aL]
 | r::l=>by
  have h:=DW l;have h2:=rA r;unfold aL at h ⊢;rw [List.flatMap_cons,YM,List.length_cons];omega
theorem Nt (l:List (List Int)):Cb (jR (sL l)):=by
 intro c hc;unfold jR sL at hc;simp only [List.toList_toArray] at hc;obtain ⟨r,_,hc⟩:=List.mem_flatMap.1 hc;rcases List.mem_append.1 hc with hc | hc
 ·exact .inr (IE _ _ c hc)
 ·exact .inl (by simpa using hc)
theorem IG:∀ (l:List (List Int)),ns (sL l)=aL l
 | []=>rfl
 | r::l=>by
  have h:=IG l;have e:sL (r::l)=fC r++[32]++sL l:=by unfold sL;rw [List.flatMap_cons]
  have e2:aL (r::l)=fC r++aL l:=by unfold aL;rw [List.flatMap_cons]
  rw [e,e2,oJ,oJ,h];have h3:ns (fC r)=fC r:=by
   unfold ns;rw [List.filter_eq_self];intro c hc;have:=IE _ _ c hc;have:c≠32:=fun e=>by subst e;exact absurd this.1 (by decide)
   rw [decide_eq_false this];rfl
  rw [h3,show ns [32]=[] from rfl,List.append_nil]
theorem Gn {s:ByteArray} (hl:Cb s) (hne:dR s=false) (hs:s.size<=1000) (W:Int) (h1:1<=W) (h2:W<=1048576) (w:World) (ab:Option Addr) (nb cb:Nat) (h:Rd (·<w.heap.size) w (aX [lK s]) [.slice ab nb cb]) (ht:TabAt w) (hml:jY w) : Calls Tryz.prog 11 #[.agg #[.slice none 0 0,.slice ab nb cb],.int .i64 W] w (Nu (sG s W,0) w):=by
 obtain ⟨hle,Ws⟩:=Nv hl hs W h1 h2;have e:DX (fun _=>true) W [] [lK s]=(sG s W,0):=by unfold DX;rw [if_neg (by rw [Ky hl hne];decide),if_neg (by rw [Kz];decide),Ws]
 rw [<- e];have hsh:(ah.ay [iJ s]).length=s.size:=by
  have e:(dL [iJ s]).size=s.size:=by rw [sH]
  rw [<- e];show _=(ah.ay [iJ s]).toArray.size;rw [List.size_toArray]
 have Kk:gK (ah.aC [iJ s])=[]:=by simp [iJ,ah.aC,ah.deep,gK,ah.id1]
 refine kU (fun _=>true) W [] [lK s] none ab 0 nb cb w ⟨h1,h2⟩ (by simp) (by simp) (by simp [lK,oK,iJ,aj.aY,aj.all,ah.aW,ah.sz]) ?_ ?_ (zG s) (by simp [lK,oK,aj.aW,aj.sz]) (by simp [lK,oK,iJ,aj.aK,aj.inls,ah.aC,ah.deep]) ?_ (Rd.aJ _ _ _) h ?_ ht hml
 ·have h3:=sI ⟨#[]⟩ (by decide);have h4:(⟨#[]⟩:ByteArray).size<=300:=by decide
  have h5:s.size<=1000000:=by omega
  have h6:(⟨#[]⟩:ByteArray).size<=1000000:=by decide
  simp [lK,oK,iJ,aj.bW,aj.mid,ah.bW,ah.mid,h3,h4,h5,h6]
 ·intro hm;simp [lK,oK,aj.oL,aj.Nw] at hm
 ·unfold lK oK;have hz:(⟨#[]⟩:ByteArray).size=0:=rfl;rw [aj.bg,aj.lU,hsh,Kk,hz];simp [aj.bg];omega
 ·intro _ _ wz _;exact gB _ W wz [lK s] (fun x hx=>by
   obtain rfl:=List.mem_singleton.1 hx;exact oM _ W wz 1 0 _ _ (.inl rfl) (by rw [hsh];omega) hle (by rw [Kk];simp)) (fun x _=>oh W ⟨h1,h2⟩ x)
theorem DY (s:ByteArray) (W:Int):∀ x∈gV s W,x.size<=s.size:=by
 intro x hx;unfold gV dM at hx;split at hx
 ·simp at hx;subst hx;exact YS _
 ·unfold kR mZ at hx;obtain ⟨i,_,rfl⟩:=List.mem_map.1 hx;exact Bf s _ _
theorem Gp {α β:Type} (f:α->List β) (L:List α) (k:Nat):((L.take k).flatMap f).length<=(L.flatMap f).length:=by
 have h:L.flatMap f=(L.take k).flatMap f++(L.drop k).flatMap f:=by rw [<- List.flatMap_append,List.take_append_drop]
 rw [h,YM];omega
theorem Gq (x:ByteArray) (k:Nat) (c:UInt8) (h:x.data.toList[k]?=some c):x.extract k (k+1)=jR [c]:=by apply ByteArray.ext;apply Array.toList_inj.1;rw [ByteArray.data_extract,Array.toList_extract,List.extract_eq_take_drop,Nat.add_sub_cancel_left,List.take_one,List.head?_drop,h];rfl
def DZ (x:ByteArray):List UInt8:=ns x.data.toList
def Ru (l:List (List Int)) (w:World) (vs va vi:Value) (wr:World):Prop:=
 ∃ k:Nat,k<=l.length/\vi=.int .i64 k/\vs=.string (jR (sL (l.take k)))/\va=.string (jR (aL (l.take k)))/\Below w.heap.size w wr
def Rv (r:List Int) (w:World) (vw vj:Value) (wr:World):Prop:=
 ∃ j:Nat,j<=min r.length 10/\vj=.int .i64 j/\vw=.string (jR (w8 r j))/\Below w.heap.size w wr
theorem sJ (l:List (List Int)) (v:Value) (m:Int) (w:World) (hby:∀ r∈l,Gh r) (h:Rd (·<w.heap.size) w (DR l) [v]) (hm:0<=m/\m<=65535) (hp:PT w) (ht:TabAt w) (hml:jY w) : Calls Tryz.prog 5 #[v,.int .u16 m] w fun e w'=>e=.returned (.bool true)/\Below w.heap.size w w':=by
 obtain ⟨a,c,hv,hs⟩:=Rd.aD h;obtain ⟨n,hn⟩:∃ n,n=l.length:=⟨_,rfl⟩;obtain rfl:v=.slice a n c:=by rw [hn];simpa using hv
 have hcap:n<=c:=by have:=hs.le;rw [List.length_map] at this;omega
 have hmx:=hs.max;unfold maxLen at hmx;have AW:=hid (fun (w':World) (hb:Below w.heap.size w w')=>Gr w' (ht.below hb) (hml.below hb));have HT:=hid ht;have QS:=hid hml;have HN:=hid hn;have HSL:=hid hs;have Wt:=hid hby;obtain ⟨hm1,hm2⟩:=hm;clear h hv hs hn hby ht hml hp;by_cases hbig:60<n
 ·have q1:decide ((60:Int)<(n:Int))=true:=by simp;omega
  have aw:=AW.out w (Below.refl _ _);clear hbig;go_enter Tryz.func5,Tryz.ntmps5;go_wp2_with fail
  refine aw.mono ?_;rintro e w2 ⟨rfl,b2⟩;go_wp2;go_ret;exact ⟨rfl,b2⟩
 have q1:decide ((60:Int)<(n:Int))=false:=by simp;omega
 go_enter Tryz.func5,Tryz.ntmps5;go_wp2;clear q1
 go_loopw [5,6,7] (fun vs va vi wr=>Ru l w vs va vi wr) (fun _ _ vi _=>n-(intOf vi).toNat)
 case atStart=>exact ⟨0,YS _,rfl,rfl,rfl,Below.refl _ _⟩
 case round=>
  obtain ⟨k,hk,rfl,rfl,rfl,hbel⟩:=hrel;by_cases hlt:k<n
  ·obtain ⟨r,hr⟩:∃ r,l[k]?=some r:=⟨_,YG (by have:=HN.out;omega)⟩;obtain ⟨b,off,va,rfl,hbl,c0,hva⟩:=DU HSL.out hr;have c0:wr.cell? ⟨b,off+k,none⟩=some va:=by rw [hbel.cell (p:=⟨b,off+k,none⟩) (fM c0)];exact c0
   obtain ⟨ra,rc,CY,hsr⟩:=Rd.aD hva;obtain ⟨nr,hnr⟩:∃ nr,nr=r.length:=⟨_,rfl⟩;obtain rfl:va=.slice ra nr rc:=by rw [hnr];simpa using CY
   have hrc:nr<=rc:=by have:=hsr.le;rw [List.length_map] at this;omega
   have hrm:=hsr.max;unfold maxLen at hrm;have HR:=hid hr;have P5:=hid hnr;have Wu:=hid hsr;have KE:=hid hbel;have Wv:=hid (Wt.out r (YT hr));have zs:(jR (sL (l.take k))).size<=720:=by have:=yw (l.take k);rw [List.length_take] at this;show (sL (l.take k)).toArray.size<=720;rw [List.size_toArray];omega
   have za:(jR (aL (l.take k))).size<=720:=by have:=DW (l.take k);rw [List.length_take] at this;show (aL (l.take k)).toArray.size<=720;rw [List.size_toArray];omega
   have P6:=hid (Gl hr);have HA1:=hid (Gm hr);clear hr hva CY hsr hnr hbel hbl;obtain ⟨X,hX⟩:∃ X,X=jR (sL (l.take k)):=⟨_,rfl⟩;obtain ⟨Y,hY⟩:∃ Y,Y=jR (aL (l.take k)):=⟨_,rfl⟩;rw [<- hX] at zs ⊢;rw [<- hY] at za ⊢;have HX:=hid hX;have HY:=hid hY;clear hX hY;obtain ⟨wo,hwo⟩:∃ wo,wo=wr:=⟨_,rfl⟩;subst hwo;go_wp2
   go_loopw [8,9] (fun vw vj w2=>Rv r wo vw vj w2) (fun _ vj _=>10-(intOf vj).toNat)
   case atStart=>exact ⟨0,YS _,rfl,rfl,Below.refl _ _⟩
   case round=>
    obtain ⟨j,hj,rfl,rfl,hb2⟩:=hrel;have HB2:=hid hb2;have HB3:=hid (aM KE.out hb2);have c1:wr.cell? ⟨b,off+k,none⟩=some (.slice ra nr rc):=by rw [hb2.cell (p:=⟨b,off+k,none⟩) (fM c0)];exact c0
    have zw:(jR (w8 r j)).size<=720:=by have:=DV r j;show (w8 r j).toArray.size<=720;rw [List.size_toArray];omega
    by_cases hj1:j<nr
    ·have q1:decide ((j:Int)<(nr:Int))=true:=by simp;omega
     by_cases hj2:j<10
     ·have q2:decide ((j:Int)<10)=true:=by simp;omega
      obtain ⟨y,hy⟩:∃ y,r[j]?=some y:=⟨_,YG (by have:=P5.out;omega)⟩;obtain ⟨b2,off2,rfl,f0⟩:=Nr Wu.out hy;have f0:wr.cell? ⟨b2,off2+j,none⟩=some (.int .u8 y):=by rw [HB3.out.cell (p:=⟨b2,off2+j,none⟩) (fM f0)];exact f0
      have HW1:=hid (Gj hy);have hyb:=Wv.out y (YT hy);obtain ⟨yn,rfl⟩:∃ yn:Nat,y=(yn:Int):=⟨y.toNat,by omega⟩;have hyn:yn<=255:=by omega
      have hcv:=yx wr (97+yn%26) (by omega);have ec:((97+yn%26:Nat):Int)=97+(yn:Int)%26:=by omega
      rw [ec] at hcv;have q1':decide (j<nr)=true:=by simpa using hj1
      have q2':decide (j<10)=true:=by simpa using hj2
      have hlt1:Hid (j+1<=min nr 10):=by show _<=_;omega
      have HW2:Hid (jR (w8 r j)++⟨#[UInt8.ofNat (97+yn%26)]⟩=jR (w8 r (j+1))):=by show _=_;rw [HW1.out,<- fD];rfl
      clear hb2 hy hyb ec;go_wp2;go_roundw;case rel=>exact ⟨j+1,by have:=hlt1.out;have:=P5.out;omega,by go_num,by rw [<- HW2.out,show UInt8.ofNat (97+yn%26)=97+UInt8.ofNat (yn%26) from by simp],HB2.out.alloc HB2.out.size _⟩
      case measure=>simp [intOf];have:=hlt1.out;omega
     ·have q2:decide ((j:Int)<10)=false:=by simp;omega
      have q1':decide (j<nr)=true:=by simpa using hj1
      have q2':decide (j<10)=false:=by simpa using hj2
      have Ny:Hid (w8 r j=fC r):=by show _=_;unfold fC;have:=P5.out;rw [show j=min r.length 10 by omega]
      clear hb2;go_wp2;go_roundw;case rel=>exact ⟨k+1,by have:=HN.out;omega,by go_num,by rw [P6.out,<- Ny.out,<- fD,<- fD,<- HX.out];rfl,by rw [HA1.out,<- Ny.out,<- fD,<- HY.out],HB3.out⟩
      case measure=>simp [intOf];omega
    ·have q1:decide ((j:Int)<(nr:Int))=false:=by simp;omega
     have q1':decide (j<nr)=false:=by simpa using hj1
     have Ny:Hid (w8 r j=fC r):=by show _=_;unfold fC;have:=P5.out;rw [show j=min r.length 10 by omega]
     clear hb2;go_wp2;go_roundw;case rel=>exact ⟨k+1,by have:=HN.out;omega,by go_num,by rw [P6.out,<- Ny.out,<- fD,<- fD,<- HX.out];rfl,by rw [HA1.out,<- Ny.out,<- fD,<- HY.out],HB3.out⟩
     case measure=>simp [intOf];omega
  ·have hkn:k=n:=by have:=HN.out;omega
   have HB3:=hid hbel;obtain ⟨X,hX⟩:∃ X,X=jR (sL (l.take k)):=⟨_,rfl⟩;obtain ⟨Y,hY⟩:∃ Y,Y=jR (aL (l.take k)):=⟨_,rfl⟩;rw [<- hX,<- hY];rw [show k=l.length by have:=HN.out;omega,List.take_length] at hX hY;have hlt':Cb X:=by rw [hX];exact Nt l
   have zs:X.size<=720:=by have:=yw l;have:=HN.out;rw [hX];show (sL l).toArray.size<=720;rw [List.size_toArray];omega
   have Ww:Hid (jR (ns X.data.toList)=Y):=by show _=_;rw [hX,hY];show jR (ns (sL l).toArray.toList)=_;rw [List.toList_toArray,IG]
   have Ub:=hid hlt';have hie:=bI X;clear hbel hlt hX hY hlt';cases he:dR X with
   | true=>
    rw [he] at hie;have aw:=AW.out wr HB3.out;clear he;go_wp2_with fail
    refine aw.mono ?_;rintro e w2 ⟨rfl,b2⟩;go_wp2;go_ret;exact ⟨rfl,aM HB3.out b2⟩
   | false=>
    rw [he] at hie;have Wx:=hid he;have TX:=hid (sK X wr);clear he;go_wp2_with fail
    (with_reducible refine TX.out.mono ?_)
    rintro e w3 ⟨p3,rfl,hp3,Uc,b3⟩;obtain ⟨w4,hw4⟩:∃ w4,w4=w3.alloc (.cells (mH p3).toArray 47):=⟨_,rfl⟩;have k4:CB 47 w3.heap.size (mH p3) w4:=by rw [hw4];exact CB.new _ _ _
    have b4:Below w3.heap.size w3 w4:=by rw [hw4];exact (Below.refl _ _).alloc (Nat.le_refl _) _
    have hd4:Rd (fun _=>True) w4 (aX [lK X]) [.slice (some ⟨w3.heap.size,0,none⟩) 1 1]:=rC (jc 1 0 _ (oN (Uc.below b4) _ trivial) (Rd.aJ _ _ _)) rfl k4 trivial;have B4:=hid (aM (aM HB3.out b3) b4);have OF:=hid (Gn Ub.out Wx.out (by omega) (m+1) (by omega) (by omega) w4 _ _ _ (uZ hd4) (HT.out.below B4.out) (QS.out.below B4.out));have Rw:=hid (zH X (m+1) (by omega) (by omega));have Rx:=hid (Gs Ub.out (m+1) (by omega) (by omega));simp only [mH,gW] at hw4;simp only [mH,gW];clear hp3 Uc b3 k4 b4 hd4 TX;go_wp2_with fail
    rw [<- hw4];clear hw4
    (with_reducible refine OF.out.mono ?_)
    rintro e w5 ⟨v5,rfl,Dm,b5⟩;have B5:=hid (aM B4.out b5);obtain ⟨L,hL⟩:∃ L,L=gV X (m+1):=⟨_,rfl⟩;obtain ⟨NB,P7⟩:∃ NB,NB=L.length:=⟨_,rfl⟩;obtain ⟨a5,c5,hv5,hs5⟩:=Rd.aD Dm;have hbl:(sG X (m+1)).length=NB:=by unfold sG;rw [P7,hL];simp
    obtain rfl:v5=.slice a5 NB c5:=by rw [<- hbl];simpa using hv5
    have hcap5:NB<=c5:=by have:=hs5.le;rw [List.length_map,hbl] at this;exact this
    have Ry:=hs5.max;unfold maxLen at Ry;have II:∀ (i:Nat) (x:ByteArray),L[i]?=some x->(sG X (m+1))[i]?=some (⟨x,1,0,keepW NB i,false,[]⟩:Bx):=by intro i x hx;have hi:=(List.getElem?_eq_some_iff.1 hx).1;unfold sG;rw [<- hL,YZ,List.getElem?_range hi,<- P7];show some (Bx.new (L.getD i ⟨#[]⟩) 1 (keepW NB i))=_;rw [List.getD_eq_getElem?_getD,hx];rfl
    have hget:=hid II;have MP:=hid hs5;have Ud:=hid P7;have Ue:=hid (fun x hx=>Nat.le_trans (DY X (m+1) x hx) zs);rw [<- hL] at Rw Rx Ue;have hn1:1<=NB:=by have:=Rw.out.1;omega
    have hn2:NB<=721:=by have:=Rw.out.2;omega
    have qz:((NB:Int)==0)=false:=by simp;omega
    have aw:=AW.out w5 B5.out;have Wy:=hid aw;clear II Dm b5 hL hv5 hs5 hbl P7 OF aw;go_wp2
    go_loop [12,13] (fun vg vi=>∃ i:Nat,i<=NB/\vi=.int .i64 i/\vg=.string (jR ((L.take i).flatMap DZ))) (fun _ vi=>NB-(intOf vi).toNat)
    case atStart=>exact ⟨0,YS _,rfl,rfl⟩
    case round=>
     obtain ⟨i,hi,rfl,rfl⟩:=hrel;by_cases hlt:i<NB
     ·obtain ⟨x,hx⟩:∃ x,L[i]?=some x:=⟨_,YG (by have:=Ud.out;omega)⟩;obtain ⟨b5,Wz,Ye,rfl,-,-,⟨c0,c1,c2,c3,-,-⟩,-⟩:=iT MP.out (hget.out i x hx);have hx1:(L.take (i+1)).flatMap DZ=(L.take i).flatMap DZ++DZ x:=by rw [Y1,hx,List.flatMap_append];simp
      have hx2:(L.flatMap DZ).length<=720:=by have h1:L.flatMap DZ=ns X.data.toList:=Rx.out;have h2:(ns X.data.toList).length<=X.data.toList.length:=List.length_filter_le _ _;have h3:X.data.toList.length=X.size:=Array.length_toList;rw [h1];omega
      have hx3:=Gp DZ L (i+1);have hxs:=Ue.out x (YT hx);rw [hx1,YM] at hx3;obtain ⟨A,hA⟩:∃ A,A=(L.take i).flatMap DZ:=⟨_,rfl⟩;rw [<- hA] at hx1 hx3 ⊢;have WA:=hid hx1;have zA:(jR A).size<=720:=by show A.toArray.size<=720;rw [List.size_toArray];omega
      have HZ:=hid (show A.length+(DZ x).length<=720 by omega);clear hx hx1 hx2 hx3 hA;go_wp2
      go_loop [12,14] (fun vg vk=>∃ k:Nat,k<=x.size/\vk=.int .i64 k/\vg=.string (jR (A++ns (x.data.toList.take k)))) (fun _ vk=>x.size-(intOf vk).toNat)
      case atStart=>exact ⟨0,YS _,rfl,by simp [ns]⟩
      case round=>
       obtain ⟨k,hk,rfl,rfl⟩:=hrel;by_cases hkt:k<x.size
       ·have hc:x.data.toList[k]?=some (x[k]'hkt):=by
         rw [YG (by rw [Array.length_toList];exact hkt),Array.getElem_toList];rfl
        have hex:=Gq x k _ hc;have P8:ns (x.data.toList.take (k+1))=ns (x.data.toList.take k)++ns [x[k]'hkt]:=by rw [Y1,hc,oJ];rfl
        have zk:(jR (A++ns (x.data.toList.take k))).size<=720:=by have h1:(ns (x.data.toList.take k)).length<=(ns x.data.toList).length:=List.Sublist.length_le (List.Sublist.filter _ (List.take_sublist _ _));have h2:A.length+(ns x.data.toList).length<=720:=HZ.out;show (A++ns (x.data.toList.take k)).toArray.size<=720;rw [List.size_toArray,YM];omega
        by_cases h32:x[k]'hkt=32
        ·have qb:(((x[k]'hkt).toNat:Int) != 32)=false:=by rw [h32];rfl
         have HK:Hid (jR (A++ns (x.data.toList.take (k+1)))=jR (A++ns (x.data.toList.take k))):=by show _=_;rw [P8,h32,show ns [32]=[] from rfl,List.append_nil]
         clear hc hex P8 h32;go_wp2
         go_round
         case rel=>exact ⟨k+1,by omega,by go_num,by rw [HK.out]⟩
         case measure=>simp [intOf];omega
        ·have qb:(((x[k]'hkt).toNat:Int) != 32)=true:=by
          simp only [bne_iff_ne,ne_eq];intro e;exact h32 (UInt8.toNat_inj.1 (show (x[k]'hkt).toNat=32 by omega))
         have HK:Hid (jR (A++ns (x.data.toList.take (k+1)))=jR (A++ns (x.data.toList.take k))++x.extract k (k+1)):=by
          show _=_;have e:ns [x[k]'hkt]=[x[k]'hkt]:=by unfold ns;simp [h32]
          rw [P8,e,hex,fD,List.append_assoc]
         clear hc hex P8 h32;go_wp2
         go_round
         case rel=>exact ⟨k+1,by omega,by go_num,by rw [HK.out]⟩
         case measure=>simp [intOf];omega
       ·have hkx:k=x.size:=by omega
        have HA2:Hid (jR (A++ns (x.data.toList.take k))=jR ((L.take (i+1)).flatMap DZ)):=by show _=_;rw [WA.out,hkx,List.take_of_length_le (by rw [Array.length_toList];exact Nat.le_refl _)];rfl
        rw [HA2.out];obtain ⟨kv,hkv⟩:∃ kv,kv=keepW NB i:=⟨_,rfl⟩;rw [<- hkv] at c3;unfold keepW at hkv;rcases (by omega:NB=1\/(1<NB/\i=0)\/(1<NB/\i≠0/\i+2=NB)\/(1<NB/\i≠0/\i+2≠NB)) with h | ⟨h,h2⟩ | ⟨h,h2,h3⟩ | ⟨h,h2,h3⟩
        case' inl=>
         have q1:decide ((1:Int)<(NB:Int))=false:=by simp;omega
         have q1':decide (1<NB)=false:=by simp;omega
         have D5:kv=false:=by rw [hkv,q1'];rfl
         clear h
        case' inr.inl=>
         have q1:decide ((1:Int)<(NB:Int))=true:=by simp;omega
         have q1':decide (1<NB)=true:=by simp;omega
         have q2:((i:Int)==0)=true:=by simp;omega
         have D5:kv=true:=by rw [hkv,q1',decide_eq_true h2];rfl
         clear h h2
        case' inr.inr.inl=>
         have q1:decide ((1:Int)<(NB:Int))=true:=by simp;omega
         have q1':decide (1<NB)=true:=by simp;omega
         have q2:((i:Int)==0)=false:=by simp;omega
         have q3:((i:Int)==(NB:Int)-2)=true:=by simp;omega
         have D5:kv=true:=by rw [hkv,q1',decide_eq_true h3];simp
         clear h h2 h3
        case' inr.inr.inr=>
         have q1:decide ((1:Int)<(NB:Int))=true:=by simp;omega
         have q1':decide (1<NB)=true:=by simp;omega
         have q2:((i:Int)==0)=false:=by simp;omega
         have q3:((i:Int)==(NB:Int)-2)=false:=by simp;omega
         have D5:kv=false:=by rw [hkv,q1',decide_eq_false h2,decide_eq_false h3];rfl
         clear h h2 h3
        all_goals
         rw [D5] at c3;clear hkv D5;go_wp2
         go_round
         case rel=>exact ⟨i+1,by omega,by go_num,rfl⟩
         case measure=>simp [intOf];omega
     ·have WC:i=NB:=by omega
      have HG:Hid (jR ((L.take i).flatMap DZ)=Y):=by show _=_;rw [WC,Ud.out,List.take_length,<- Ww.out];exact congrArg jR Rx.out
      rw [HG.out];have aw:=Wy.out;go_wp2_with fail
      refine aw.mono ?_;rintro e w6 ⟨rfl,b6⟩;go_wp2;go_ret;exact ⟨rfl,aM B5.out b6⟩
end Go.Proofs.YtnmldmofggkoeaaGreatDoor

