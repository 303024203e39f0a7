/- publisherref04.Deep, List: inlines and blocks with those in them, in document order. publisherref04.List: blocks with those in them, in document order. -/
import Derived.Test.YtdneicipdlofiaaGreatDoorKSame
import Derived.Test.YtdneicipdlofiaaGreatDoorKRwC
set_option maxHeartbeats 4000000
set_option maxRecDepth 100000
open Go.Lib (hid)
namespace Go.Proofs.YtdneicipdlofiaaGreatDoor
open Go.RowKit
set_option linter.unusedVariables false
set_option linter.unusedSimpArgs false
theorem Ui:(Tryz.prog.info? 43).map (fun i=>(i.zero,i.size,i.bytes))=some (some (.agg #[.int .i64 0,.string ByteArray.empty,.string ByteArray.empty,.string ByteArray.empty,.string ByteArray.empty,.slice none 0 0,.slice none 0 0,.slice none 0 0,.slice none 0 0,.slice none 0 0]),10,192):=by kernel_rfl
mutual
theorem Rd.tu {ok:Nat->Prop} {w:World}:∀ (d:D) (cs:List Value),Rd ok w d cs->∀ u∈cs,u.oneCell'=true
 | .int _ _,_,h,u,hu=>by rw [h.ko] at hu;simp at hu;subst hu;rfl
 | .bool _,_,h,u,hu=>by rw [h.nN] at hu;simp at hu;subst hu;rfl
 | .str _,_,h,u,hu=>by rw [h.aY] at hu;simp at hu;subst hu;rfl
 | .st fs,_,h,u,hu=>by
  obtain ⟨rows,hr,rfl⟩:=h.lD;exact aL.tu fs rows hr u hu
 | .sl k l,_,h,u,hu=>by
  obtain ⟨a,cap,rfl,_⟩:=h.aC;simp at hu;subst hu;rfl
theorem aL.tu {ok:Nat->Prop} {w:World}:∀ (l:List D) (rows:List (List Value)),aL ok w l rows->∀ u∈rows.flatten,u.oneCell'=true
 | [],_,h,u,hu=>by rw [h.bY] at hu;simp at hu
 | d::ds,_,h,u,hu=>by
  obtain ⟨r,rs,rfl,h1,h2⟩:=h.aD;rw [List.flatten_cons] at hu;rcases List.mem_append.1 hu with hu | hu
  ·exact Rd.tu d r h1 u hu
  ·exact aL.tu ds rs h2 u hu
end
structure Row (T:TypeId) (k B:Nat) (w0:World) (ds:List D) (rows:List (List Value)) (v:Value) (w:World):Prop where
 own:w.ownsRow w0.heap.size T k v ds.length rows.flatten
 red:aL (·<B) w ds rows
 len:∀ r∈rows,r.length=k
 gH:Below w0.heap.size w0 w
section
variable {T:TypeId} {k B:Nat} {w0 w w1 w2:World} {ds es:List D} {rows fM:List (List Value)} {v v':Value}
theorem Row.nil (T:TypeId) (k B:Nat) (w0:World):Row T k B w0 [] [] (.slice none 0 0) w0:=⟨⟨by simp,.inl ⟨rfl,rfl⟩⟩,aL.none,by simp,Below.refl _ _⟩
theorem Row.up (h:Row T k B w0 ds rows v w) (hB:B<=w.heap.size) (hb:Below w.heap.size w w1):Row T k B w0 ds rows v w1:=
 ⟨zY h.own hb,aL.keep (fun b h1 h2=>⟨h1,hb.block b h2⟩) _ _ h.red,h.len,aP h.gH hb⟩
theorem Row.app (h:Row T k B w0 ds rows v w1) (hB:B<=w0.heap.size) (hes:aL (·<B) w1 es fM) (hl2:∀ r∈fM,r.length=k) (hown:w2.ownsRow w0.heap.size T k v' (ds.length+es.length) (rows.flatten++fM.flatten)) (hg:w1.grownBy w2 v.ownBlock):Row T k B w0 (ds++es) (rows++fM) v' w2:=by
 have hne:∀ b,b<w0.heap.size->some b≠v.ownBlock:=fun b hb e=>by have:=(h.own.lt b e.symm).1;omega
 have hst:J4 (·<B) (·<B) w1 w2:=fun b h1 h2=>⟨h1,hg.block b h2 (hne b (by omega))⟩
 refine ⟨by rw [List.length_append,List.flatten_append];exact hown,aL.app (aL.keep hst _ _ h.red) (aL.keep hst _ _ hes),?_,?_⟩
 ·intro r hr;rcases List.mem_append.1 hr with hr | hr
  ·exact h.len r hr
  ·exact hl2 r hr
 ·have hb:=h.gH;exact ⟨hg.os.trans hb.os,hg.tape.trans hb.tape,hg.output.trans hb.output,Nat.le_trans hb.size hg.size,fun b hlt=>(hg.block b (Nat.lt_of_lt_of_le hlt hb.size) (hne b hlt)).trans (hb.block b hlt)⟩
end
mutual
theorem aj.Uj:∀ (x:aj),x.deep.length=x.sz
 | .mk _ _ _ _ _ _ _ ks=>by rw [aj.deep,aj.sz,List.length_cons,aj.nK ks];omega
theorem aj.nK:∀ (l:List aj),(aj.aA l).length=aj.aX l
 | []=>by rw [aj.aA,aj.aX];rfl
 | x::l=>by rw [aj.aA,aj.aX,List.length_append,aj.Uj x,aj.nK l]
end
theorem aj.I8 {l:List aj} {k:Nat} {x:aj} (hx:l[k]?=some x):aj.aA (l.take (k+1))=aj.aA (l.take k)++x.deep:=by rw [List.take_add_one,hx,aj.kD];simp [aj.aA]
theorem aj.Gd (l:List aj) (k:Nat):aj.aX (l.take k)<=aj.aX l:=by have:=aj.Dq (l.take k) (l.drop k);rw [List.take_append_drop] at this;omega
def VU (B:Nat) (w:World) (l:List aj) (v vi:Value) (wr:World):Prop:=∃ (k:Nat) (rows:List (List Value)),k<=l.length/\vi=.int .i64 k/\Row 43 10 B w ((aj.aA (l.take k)).map aj.d) rows v wr
theorem Qx (n:Nat):∀ (l:List aj) (B:Nat) (v:Value) (w:World),aj.aX l<=n->n<=1000000->Rd (·<B) w (fK l) [v]->B<=w.heap.size -> Calls Tryz.prog 51 #[v] w fun e w'=>∃ v' rows,e=.returned v'/\Row 43 10 B w ((aj.aA l).map aj.d) rows v' w':=by
 induction n using Nat.strongRecOn with
 | _ n ih=>
  intro l B v w hn hnm hrd hB;obtain ⟨iI,QU,yX,yY,yZ⟩:=info_parts Ui;obtain ⟨a,cap,hv,hs⟩:=Rd.aC hrd;obtain rfl:v=.slice a l.length cap:=by simpa using hv
  have hcap:l.length<=cap:=by simpa using hs.le
  have hmx:=hs.max;unfold maxLen at hmx;have HS:=hid hs;have IH:=hid ih;have R0:Hid (VU B w l (.slice none 0 0) (.int .i64 0) w):=⟨0,[],Nat.zero_le _,rfl,by rw [List.take_zero,aj.aA];exact Row.nil _ _ _ _⟩;clear hs hv hrd ih;go_enter Tryz.func51,Tryz.ntmps51;go_wp2
  go_loopw [3,4] (fun v vi wr=>VU B w l v vi wr) (fun _ i _=>l.length-(intOf i).toNat)
  case atStart=>exact R0.out
  case round=>
   clear R0;obtain ⟨k,rows,hk,rfl,hrow⟩:=hrel;obtain ⟨av,cv,TJ⟩:=q01 hrow.own;subst TJ;by_cases hlt:k<l.length
   ·obtain ⟨x,hx⟩:∃ x,l[k]?=some x:=⟨_,List.getElem?_eq_getElem hlt⟩;obtain ⟨kd,t,d,ti,at_,ar,ci,ks⟩:=x;obtain ⟨g,off,vc,vp,va,vi,vk,rfl,hok,hbl,hc,hR⟩:=iL HS.out hx;have hsz:=aj.bP l k _ hx;rw [aj.sz] at hsz;obtain ⟨aa,na,ca,rfl⟩:=Rd.zO hR.args;obtain ⟨ai,ni,oo,rfl⟩:=Rd.zO hR.ji;obtain ⟨ac,nc,cc,rfl⟩:=Rd.zO hR.at_.cls
    obtain ⟨ap,np,cp,rfl⟩:=Rd.zO hR.at_.aJ
    obtain ⟨ak,nk,ck,rfl⟩:=Rd.zO hR.kids;have hgw:wr.heap[g]?=w.heap[g]?:=hrow.gH.block g (by omega);obtain ⟨p0,p1,p2,p3,p4,p5,p6,p7,p8,p9⟩:=hc.at2 (w':=wr) hgw;have hrx:=aj.l6 (ok:=(·<B)) (w:=w) kd t d ti hR;have Qw:((aj.aA (l.take k)).map aj.d).length<=1000000:=by rw [List.length_map,aj.nK];have:=aj.Gd l k;omega
    have hsn:=aj.Gd l (k+1);rw [aj.rO hx,aj.sz] at hsn;have hlk:((aj.aA (l.take k)).map aj.d).length=aj.aX (l.take k):=by rw [List.length_map,aj.nK]
    obtain ⟨L,hL⟩:∃ L,L=((aj.aA (l.take k)).map aj.d).length:=⟨_,rfl⟩;obtain ⟨ds,hds⟩:∃ ds,ds=(aj.aA (l.take k)).map aj.d:=⟨_,rfl⟩;rw [<- hds] at hrow Qw hlk hL ⊢;rw [<- hL];rw [<- hL] at hrow;have ow0:=hrow.own;rw [<- hL] at ow0;have jl5:=hid ow0;clear ow0;have HDS:=hid hds;have qJ:=hid hrow;have HR:=hid hR;have HRX:=hid hrx;have HX:=hid hx;have HC:=hid hc;have hwz:=hrow.gH.size;have hLl:L<=1000000:=by omega
    have HL:=hid hL;clear hc hR hx hrx hds hrow hL;go_wp2_with (at_builtin;refine Dy _ rfl (.tmp 11) (.tmp 16) 38 rfl w.heap.size 43 iI _ 10 192 Tryz.underlying38 QU yX yY yZ rfl (by decide) (.slice av L cv) L rows.flatten rfl (jl5.out.alloc _) (wr.heap.size+1) (some ⟨wr.heap.size,0,none⟩) 1 1 [.int .i64 kd,.string t,.string d,.string ti,.string at_.id,.slice ac nc cc,.slice ap np cp,.slice aa na ca,.slice ai ni oo,.slice ak nk ck] rfl ?g1 ?g2 ?g3 ?g4 ?g5 ?_)
    case g1=>exact ⟨rfl,fun _=>⟨_,rfl,by simp,TD wr [.int .i64 kd,.string t,.string d,.string ti,.string at_.id,.slice ac nc cc,.slice ap np cp,.slice aa na ca,.slice ai ni oo,.slice ak nk ck] _⟩⟩
    case g2=>exact Rd.tu _ _ HRX.out
    case g3=>unfold maxLen;omega
    case g4=>omega
    case g5=>simp;omega
    intro v1 w1 hown1 hg1 _;obtain ⟨a1,c1,rfl⟩:=q01 hown1;have hua:Below wr.heap.size wr (wr.alloc (.cells #[.int .i64 kd,.string t,.string d,.string ti,.string at_.id,.slice ac nc cc,.slice ap np cp,.slice aa na ca,.slice ai ni oo,.slice ak nk ck] 43)):=(Below.refl _ _).alloc (Nat.le_refl _) _;have Yo:Row 43 10 B w (ds++[aj.d (.mk kd t d ti at_ ar ci ks)]) (rows++[[.int .i64 kd,.string t,.string d,.string ti,.string at_.id,.slice ac nc cc,.slice ap np cp,.slice aa na ca,.slice ai ni oo,.slice ak nk ck]]) (.slice a1 (L+1) c1) w1:=by
     refine (qJ.out.up (by omega) hua).app hB (aL.one (Rd.keep (fun b h1 h2=>⟨h1,?_⟩) _ _ HRX.out)) (by simp) ?_ hg1
     ·exact (hua.block b (by omega)).trans (qJ.out.gH.block b h2)
     ·rw [List.length_singleton,List.flatten_singleton,<- HL.out];exact hown1
    have hb1:=Yo.gH;have k9:w1.cell? ⟨g,off+k*10+9,none⟩=some (.slice ak nk ck):=(HC.out.at2 (w':=w1) (hb1.block g (by omega))).c9;have hz1:=hb1.size;have DC:=hid (IH.out (aj.aX ks) (by omega) ks B (.slice ak nk ck) w1 (Nat.le_refl _) (by omega) (Rd.keep (fun b h1 h2=>⟨h1,hb1.block b h2⟩) _ _ HR.out.kids) (by omega));have jf5:=hid Yo;clear hown1 hg1 hua Yo hb1 qJ p0 p1 p2 p3 p4 p5 p6 p7 p8 p9 hgw;go_wp2_with fail
    refine DC.out.mono ?_;rintro e w2 ⟨v2,fM,rfl,hrow2⟩;obtain ⟨a2,c2,rfl⟩:=q01 hrow2.own;have hb2:=hrow2.gH;have hz2:=hb2.size;have Yp:=hid (jf5.out.up (by omega) hb2);have Qy:=hid hrow2;have hks:((aj.aA ks).map aj.d).length=aj.aX ks:=by rw [List.length_map,aj.nK]
    have RD2:=hid (Reads.bV hrow2.own);have ON2:=hid (aL.tu _ _ hrow2.red);have hl1:(ds++[aj.d (.mk kd t d ti at_ ar ci ks)]).length=L+1:=by rw [List.length_append,List.length_singleton,<- HL.out]
    have OW2:=Yp.out.own;rw [hl1] at OW2;obtain ⟨F,hF⟩:∃ F:List Value,F=(rows++[([.int .i64 kd,.string t,.string d,.string ti,.string at_.id,.slice ac nc cc,.slice ap np cp,.slice aa na ca,.slice ai ni oo,.slice ak nk ck]:List Value)]).flatten:=⟨_,rfl⟩;rw [<- hF] at OW2;have HF:=hid hF;clear hF;obtain ⟨M,hM⟩:∃ M,M=((aj.aA ks).map aj.d).length:=⟨_,rfl⟩;rw [<- hM] at RD2 hks ⊢;have jl6:=hid OW2;have HM:=hid hM;have HL1:=hid hl1;have ZW:=hid hks;clear OW2 hM hl1 hrow2 hb2 DC jf5 hks;go_wp2_with (at_builtin;refine Dy _ rfl (.tmp 18) (.tmp 24) 38 rfl w.heap.size 43 iI _ 10 192 Tryz.underlying38 QU yX yY yZ rfl (by decide) (.slice a1 (L+1) c1) (L+1) F rfl jl6.out w2.heap.size a2 M c2 fM.flatten rfl RD2.out ON2.out ?k3 ?k4 ?k5 ?_)
    case k3=>have:=ZW.out;unfold maxLen;omega
    case k4=>have:=ZW.out;have:=HL.out;omega
    case k5=>omega
    intro v3 w3 hown3 hg3 _;obtain ⟨a3,c3,rfl⟩:=q01 hown3;have jl7:=hid (Yp.out.app hB Qy.out.red Qy.out.len (by rw [HL1.out,<- HM.out,<- HF.out];exact hown3) hg3);clear hown3 hg3 Yp Qy RD2 ON2;go_wp2;go_roundw;case rel=>
     refine ⟨k+1,rows++[[.int .i64 kd,.string t,.string d,.string ti,.string at_.id,.slice ac nc cc,.slice ap np cp,.slice aa na ca,.slice ai ni oo,.slice ak nk ck]]++fM,by omega,by go_num,?_⟩;have h3:=jl7.out;rw [HDS.out] at h3;rw [aj.I8 HX.out,aj.deep,List.map_append,List.map_cons];simpa using h3
    case measure=>simp [intOf];omega
   ·have hkl:k=l.length:=by omega
    subst hkl;rw [List.take_length] at hrow ⊢;have qJ:=hid hrow;clear hrow HS IH;go_wp2;go_ret;exact ⟨.slice av _ cv,rows,rfl,qJ.out⟩
open Go.RowKit
theorem dx.at4 {w w':World} {b o:Nat} {k lv:Int} {i t d ti id:ByteArray} {vc vp vl vk:Value} (h:dx w b o k lv i t d ti id vc vp vl vk) (hb:w'.heap[b]?=w.heap[b]?):dx w' b o k lv i t d ti id vc vp vl vk:=by obtain ⟨c0,c1,c2,c3,c4,c5,c6,c7,c8,c9,c10⟩:=h;exact ⟨(iZ hb _).trans c0,(iZ hb _).trans c1,(iZ hb _).trans c2,(iZ hb _).trans c3,(iZ hb _).trans c4,(iZ hb _).trans c5,(iZ hb _).trans c6,(iZ hb _).trans c7,(iZ hb _).trans c8,(iZ hb _).trans c9,(iZ hb _).trans c10⟩
end Go.Proofs.YtdneicipdlofiaaGreatDoor

