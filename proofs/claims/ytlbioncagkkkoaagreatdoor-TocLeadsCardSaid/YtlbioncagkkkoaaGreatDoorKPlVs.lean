/- Contract of count.Numbers$2: the visit of blocks. What the walk of publisherref22.numbered carries, and its steps. Contract of publisherref22.numbered. Plain part: the values of numbers are short. -/
import Derived.Test.YtlbioncagkkkoaaGreatDoorKRtO
import Derived.BigRegion
import Derived.Deep.CutBlock
import Derived.Test.YtlbioncagkkkoaaGreatDoorKRInls
import Derived.Test.YtlbioncagkkkoaaGreatDoorKRtL
import Derived.Test.YtlbioncagkkkoaaGreatDoorKRgX
import Derived.Deep.AppendLies
import Derived.Test.YtlbioncagkkkoaaGreatDoorKEnW
set_option maxHeartbeats 8000000
set_option maxRecDepth 100000
open Go.Lib (hid)
namespace Go.Proofs.YtlbioncagkkkoaaGreatDoor
open Go.RowKit
set_option linter.unusedVariables false
set_option linter.unusedSimpArgs false
theorem szL_snoc:∀ (l:List Blk) (k:Nat) (x:Blk),l[k]?=some x->Blk.szL (l.take (k+1))=Blk.szL (l.take k)+x.sz
 | [],_,_,h=>by simp at h
 | y::l,0,x,h=>by simp at h;subst h;simp [Blk.szL]
 | y::l,k+1,x,h=>by
  have:=szL_snoc l k x (by simpa using h)
  rw [List.take_succ_cons,List.take_succ_cons,Blk.szL,Blk.szL,this];omega
theorem szL_take_le:∀ (l:List Blk) (k:Nat),Blk.szL (l.take k)<=Blk.szL l
 | [],k=>by simp
 | y::l,0=>by simp [Blk.szL]
 | y::l,k+1=>by
  have:=szL_take_le l k
  rw [List.take_succ_cons,Blk.szL,Blk.szL];omega
def ViRel (q:Pk) (B:Nat) (free:Bool) (s:Ns) (l:List Blk) (M:Nat) (w:World) (vi:Value) (wr:World):Prop:=
 ∃ (k nn:Nat) (v:Value) (rows:List (List Value)),k<=l.length/\vi=.int .i64 (k:Int)/\NuB q B wr.heap.size (Blk.numL free s (l.take k)) v nn rows wr/\NsB (Blk.numL free s (l.take k)) (M+Blk.szL (l.take k)) nn/\Below B w wr
structure ViB (q:Pk) (B U:Nat) (s:Ns) (v:Value) (nn:Nat) (rows:List (List Value)) (p:Nat) (cs:List Value) (p':Nat) (ns:List Value) (w wx:World):Prop where
 nu:NuB q B U s v nn rows wx
 b9:CB 53 p cs wx
 b10:CB 49 p' ns wx
 up:U<=p
 pp:p<p'
 bel:Below B w wx
section
variable {q:Pk} {B U:Nat} {s:Ns} {v:Value} {nn:Nat} {rows:List (List Value)} {p p':Nat} {cs ns:List Value} {w wA wx w':World}
theorem cb_drew {T:TypeId} (h:CB T p cs w):CB T p cs w.drew:=h
theorem ViB.a1 (hn:NuB q B p s v nn rows wA) (hc:CB 53 p cs wA) (hb:Below B w wA) (hB:B<=wA.heap.size) (o:Obj) (ns:List Value) :
  ViB q B p s v nn rows p cs (wA.heap.size+1) ns w ((wA.alloc o).alloc (.cells ns.toArray 49)).drew where
 nu:=((hn.alloc _).alloc _).drew
 b9:=cb_drew (q04 (q04 hc (World.grownBy_alloc _ o none) (by simp)) (World.grownBy_alloc _ _ none) (by simp))
 b10:=by have:=CB.new 49 ns (wA.alloc o);rw [World.size_alloc] at this;exact this
 up:=Nat.le_refl _
 pp:=by have:=hc.lt;omega
 bel:=((hb.alloc hB _).alloc (by rw [World.size_alloc];omega) _).drew
theorem ViB.a2 (hn:NuB q B p s v nn rows wA) (hc:CB 53 p cs wA) (hb:Below B w wA) (hB:B<=wA.heap.size) (o:Obj) (ns:List Value) :
  ViB q B p s v nn rows p cs wA.heap.size ns w ((wA.alloc (.cells ns.toArray 49)).alloc o).drew where
 nu:=((hn.alloc _).alloc _).drew
 b9:=cb_drew (q04 (q04 hc (World.grownBy_alloc _ _ none) (by simp)) (World.grownBy_alloc _ o none) (by simp))
 b10:=cb_drew (q04 (CB.new 49 ns wA) (World.grownBy_alloc _ o none) (by simp))
 up:=Nat.le_refl _
 pp:=by have:=hc.lt;omega
 bel:=((hb.alloc hB _).alloc (by rw [World.size_alloc];omega) _).drew
theorem ViB.grown (h:ViB q B U s v nn rows p cs p' ns w wx) (hB:B<=w.heap.size) (hg:wx.grownBy w' none):ViB q B U s v nn rows p cs p' ns w w' where
 nu:=h.nu.grown hg
 b9:=q04 h.b9 hg (by simp)
 b10:=q04 h.b10 hg (by simp)
 up:=h.up
 pp:=h.pp
 bel:=h.bel.grown hg (Nat.le_trans hB h.bel.size) (by simp)
theorem ViB.drew (h:ViB q B U s v nn rows p cs p' ns w wx):ViB q B U s v nn rows p cs p' ns w wx.drew where
 nu:=h.nu.drew
 b9:=cb_drew h.b9
 b10:=cb_drew h.b10
 up:=h.up
 pp:=h.pp
 bel:=h.bel.drew
theorem ViB.secs (h:ViB q B U s v nn rows p cs p' ns w wx) (hB:B<=w.heap.size) (ok:q.ok B) {c:List Nat} (hg:wx.grownBy w' (some q.pS)) (hc:CB q.tS q.pS (intC c) w') (h6:c.length=6):ViB q B U { s with c:=c } v nn rows p cs p' ns w w':=by
 have hN:=h.nu.ltN
 have h1:=h.up
 have h2:=h.pp
 have ok2:=ok
 obtain ⟨o1,o2,o3,o4,o5,o6,o7,o8⟩:=ok
 exact
 {nu:=h.nu.secs ok2 hg hc h6
  b9:=q04 h.b9 hg (fun e=>by have:=Option.some.inj e;omega)
  b10:=q04 h.b10 hg (fun e=>by have:=Option.some.inj e;omega)
  up:=h.up,pp:=h.pp
  bel:=h.bel.grown hg (Nat.le_trans hB h.bel.size) (fun j hj=>by have:=Option.some.inj hj;omega) }
theorem ViB.maps (h:ViB q B U s v nn rows p cs p' ns w wx) (hB:B<=w.heap.size) (ok:q.ok B) {s':Ns} {f:ByteArray->Int} (hs:s'.c=s.c/\s'.out=s.out) (hg:wx.grownBy w' (some q.pM)) (hf:NumAt w' q.pM (nn+1) f) (ho:FnOk s' f):ViB q B U s' v (nn+1) rows p cs p' ns w w':=by
 have hN:=h.nu.ltN
 have h1:=h.up
 have h2:=h.pp
 have ok2:=ok
 obtain ⟨o1,o2,o3,o4,o5,o6,o7,o8⟩:=ok
 exact
 {nu:=h.nu.maps ok2 hs hg hf ho
  b9:=q04 h.b9 hg (fun e=>by have:=Option.some.inj e;omega)
  b10:=q04 h.b10 hg (fun e=>by have:=Option.some.inj e;omega)
  up:=h.up,pp:=h.pp
  bel:=h.bel.grown hg (Nat.le_trans hB h.bel.size) (fun j hj=>by have:=Option.some.inj hj;omega) }
theorem ViB.set (h:ViB q B U s v nn rows p cs p' ns w wx) (ok:q.ok B) (j:Nat) (u:Value):ViB q B U s v nn rows p cs p' (ns.set j u) w (wx.setCell ⟨p',j,none⟩ u):=by
 have hN:=h.nu.ltN
 have h1:=h.up
 have h2:=h.pp
 have ok2:=ok
 obtain ⟨o1,o2,o3,o4,o5,o6,o7,o8⟩:=ok
 exact
 {nu:=h.nu.set ok2 (by omega) j u
  b9:=(Below.heap_setCell wx ⟨p',j,none⟩ u p (by show p≠p';omega)).trans h.b9
  b10:=cb_set h.b10 j u
  up:=h.up,pp:=h.pp
  bel:=⟨h.bel.os,h.bel.tape,h.bel.output,by have:=h.bel.size;simpa [World.setCell] using this,fun b hb=>(Below.heap_setCell wx ⟨p',j,none⟩ u b (by show b≠p';omega)).trans (h.bel.block b hb)⟩ }
end
theorem FnOk.fig' {s:Ns} {f:ByteArray->Int} (h:FnOk s f):FnOk { s with f:=s.f+1 } (fun t=>if t=figS then ((s.f+1:Nat):Int) else f t):=
 ⟨if_pos rfl,(if_neg (by decide)).trans h.2.1,(if_neg (by decide)).trans h.2.2.1,(if_neg (by decide)).trans h.2.2.2⟩
theorem FnOk.tab' {s:Ns} {f:ByteArray->Int} (h:FnOk s f):FnOk { s with t:=s.t+1 } (fun t=>if t=tabS then ((s.t+1:Nat):Int) else f t):=
 ⟨(if_neg (by decide)).trans h.1,if_pos rfl,(if_neg (by decide)).trans h.2.2.1,(if_neg (by decide)).trans h.2.2.2⟩
theorem FnOk.equ' {s:Ns} {f:ByteArray->Int} (h:FnOk s f):FnOk { s with e:=s.e+1 } (fun t=>if t=equS then ((s.e+1:Nat):Int) else f t):=
 ⟨(if_neg (by decide)).trans h.1,(if_neg (by decide)).trans h.2.1,if_pos rfl,(if_neg (by decide)).trans h.2.2.2⟩
def ViC (q:Pk) (B p:Nat) (v:Value) (nn:Nat) (rows:List (List Value)) (cs:List Value) (p':Nat) (id KS:ByteArray) (r:Ns × ByteArray × List Inl) (w wx:World):Prop:=
 ∃ (vl:Value) (nn2:Nat),ViB q B p r.1 v nn2 rows p cs p' [.string id,.string KS,.string r.2.1,vl] w wx/\Rd (p'<·) wx (q0w r.2.2) [vl]/\nn2<=nn+1
theorem cntUp_bd (c:List Nat) (K M:Nat) (h:∀ i,c.getD i 0<=M) (i:Nat):(cntUp c K).getD i 0<=M+1:=by
 have h0:=h i
 unfold cntUp
 rw [List.getD_eq_getElem?_getD,List.getElem?_map]
 by_cases hi:i<6
 ·rw [List.getElem?_range hi]
  simp only [Option.map_some,Option.getD_some]
  split
  ·omega
  ·split<;>omega
 ·rw [List.getElem?_eq_none (by simp;omega)];simp
theorem NsB.one {s:Ns} {M nn nn2:Nat} (h:NsB s M nn) (h2:nn2<=nn+1) (free:Bool) (k lv:Int) (i:ByteArray) (a:At) (li:List Inl) (ks:List Blk):NsB (q2g free s k lv i a li ks) (M+1) nn2:=by
 obtain ⟨c,f,t,e,o,n⟩:=h
 unfold q2g
 split
 ·exact ⟨cntUp_bd _ _ _ c,by show s.f<=_;omega,by show s.t<=_;omega,by show s.e<=_;omega,by show (s.out++[_]).length<=_;simp;omega,by omega⟩
 ·split
  ·exact ⟨fun i=>Nat.le_trans (c i) (by omega),by show s.f+1<=_;omega,by show s.t<=_;omega,by show s.e<=_;omega,by show (s.out++[_]).length<=_;simp;omega,by omega⟩
  ·split
   ·exact ⟨fun i=>Nat.le_trans (c i) (by omega),by show s.f<=_;omega,by show s.t+1<=_;omega,by show s.e<=_;omega,by show (s.out++[_]).length<=_;simp;omega,by omega⟩
   ·split
    ·exact ⟨fun i=>Nat.le_trans (c i) (by omega),by show s.f<=_;omega,by show s.t<=_;omega,by show s.e+1<=_;omega,by show (s.out++[_]).length<=_;simp;omega,by omega⟩
    ·exact ⟨fun i=>Nat.le_trans (c i) (by omega),by omega,by omega,by omega,by omega,by omega⟩
def ViT (q:Pk) (B p:Nat) (cs:List Value) (s:Ns) (nn:Nat) (w wx:World):Prop:=
 ∃ (v:Value) (rows:List (List Value)),NuB q B wx.heap.size s v nn rows wx/\CB 53 p cs wx/\Below B w wx
theorem infoNu:(Tryz.prog.info? 49).map (fun i=>(i.zero,i.size,i.bytes))=some (some (.agg #[.string ByteArray.empty,.string ByteArray.empty,.string ByteArray.empty,.slice none 0 0]),4,72):=by kernel_rfl
theorem visit_any (n:Nat):∀ (l:List Blk) (free:Bool) (q:Pk) (B M nn:Nat) (s:Ns) (v vo:Value) (rows:List (List Value)) (w:World),Blk.szL l<=n->Rd (·<B) w (q0x l) [v]->q.ok B->NuB q B w.heap.size s vo nn rows w->NsB s M nn ->
  M+n<=900000->Blk.bdL l ->
  Calls Tryz.prog 47 #[v,.bool free,.pointer (some ⟨q.pS,0,none⟩),.pointer (some ⟨q.pK,0,none⟩),.pointer (some ⟨q.pO,0,none⟩),.pointer (some ⟨q.pV,0,none⟩)] w fun e w'=>
   e=.returned (.tuple #[])/\∃ (nn':Nat) (vo':Value) (rows':List (List Value)),NuB q B w'.heap.size (Blk.numL free s l) vo' nn' rows' w'/\NsB (Blk.numL free s l) (M+Blk.szL l) nn'/\Below B w w':=by
 induction n using Nat.strongRecOn with
 | _ n ih=>
  intro l free q B M nn s v vo rows w hn hrd hok hnu hns hM hbd
  obtain ⟨iI,hiI,hzI0,hzI1,hzI2⟩:=info_parts infoNu
  obtain ⟨a,cap,hv,hs⟩:=Rd.sl_open hrd
  obtain rfl:v=.slice a l.length cap:=by simpa using hv
  have hcap:l.length<=cap:=by simpa using hs.le
  have hll:=Blk.len_le l
  have hmx:=hs.max
  have HS:=hid hs
  have IH:=hid ih
  have HBD:=hid hbd
  have HOK:=hid hok
  have HBEL0:B<=w.heap.size:=by
   obtain ⟨o1,o2,o3,o4,o5,o6,o7,o8⟩:=hok
   have:=hnu.ltN;omega
  have R0:Hid (ViRel q B free s l M w (.int .i64 0) w):=⟨0,nn,vo,rows,Nat.zero_le _,rfl,by rw [List.take_zero,Blk.numL];exact hnu,by rw [List.take_zero,Blk.numL];exact hns.mono (by omega),Below.refl _ _⟩
  clear hs hv hrd ih hbd hnu hns hok
  unfold maxLen at hmx
  go_enter Tryz.func47,Tryz.ntmps47
  go_wp2
  go_loopw [13] (fun vi wr=>ViRel q B free s l M w vi wr) (fun i _=>l.length-(intOf i).toNat)
  case atStart=>exact R0.out
  case round=>
   obtain ⟨k,nk_,v1,rows1,hk,rfl,hnu,hns,hbel⟩:=hrel
   clear R0
   by_cases hlt:k<l.length
   ·obtain ⟨x,hx⟩:∃ x,l[k]?=some x:=⟨_,List.getElem?_eq_getElem hlt⟩
    obtain ⟨kd,lv,i,t,d,ti,at_,li,ks⟩:=x
    obtain ⟨g,off,vc,vp,vl,vk,rfl,hgB,hbl,hc,hR⟩:=q1w HS.out hx
    obtain ⟨c0,c1,c2,c3,c4,c5,c6,c7,c8,c9,c10⟩:=hc.same (hbel.block g hgB)
    clear hc
    have hb1:=Blk.bdL_get l k _ HBD.out hx
    rw [Blk.bd] at hb1
    obtain ⟨hn1,hn2,hn3,hn4,hn5⟩:=hb1
    have hsz:=szL_snoc l k _ hx
    have hszl:=szL_take_le l (k+1)
    rw [Blk.sz] at hsz
    obtain ⟨ac,nc,cc,rfl⟩:∃ ac nc cc,vc=.slice ac nc cc:=by obtain ⟨a',c',h',_⟩:=Rd.sl_open hR.at_.cls;exact ⟨_,_,_,by simpa using h'⟩
    obtain ⟨ap,np,cp,rfl⟩:∃ ac nc cc,vp=.slice ac nc cc:=by obtain ⟨a',c',h',_⟩:=Rd.sl_open hR.at_.prs;exact ⟨_,_,_,by simpa using h'⟩
    obtain ⟨al,nl,cl,rfl⟩:∃ ac nc cc,vl=.slice ac nc cc:=by obtain ⟨a',c',h',_⟩:=Rd.sl_open hR.line;exact ⟨_,_,_,by simpa using h'⟩
    obtain ⟨ak,nk,ck,rfl⟩:∃ ac nc cc,vk=.slice ac nc cc:=by obtain ⟨a',c',h',_⟩:=Rd.sl_open hR.kids;exact ⟨_,_,_,by simpa using h'⟩
    have HR0:=hid hR
    have HR:=hid (show BlR (·<B) wr at_ li ks (.slice ac nc cc) (.slice ap np cp) (.slice al nl cl) (.slice ak nk ck) from ⟨hR.at_.below hbel,hR.line.below hbel,hR.kids.below hbel⟩)
    have HX:=hid hx
    have HNU:=hid hnu
    have HNS:=hid hns
    have HSNOC:=hid (Blk.numL_snoc free l k _ s hx)
    have HBEL:=hid hbel
    clear hR hx hnu hns hbel
    generalize Blk.numL free s (l.take k)=sk at *
    go_upto_region 3 with (fail)
    obtain ⟨p,hp⟩:∃ p,p=wr.heap.size:=⟨_,rfl⟩
    obtain ⟨wA,hwA⟩:∃ wA,wA=wr.alloc (.cells #[.int .i64 kd,.int .i64 lv,.string i,.string t,.string d,.string ti,.string at_.id,.slice ac nc cc,.slice ap np cp,.slice al nl cl,.slice ak nk ck] 53):=⟨_,rfl⟩
    have NA:NuB q B p sk v1 nk_ rows1 wA:=by rw [hwA,hp];exact HNU.out.alloc _
    have CA:CB 53 p [.int .i64 kd,.int .i64 lv,.string i,.string t,.string d,.string ti,.string at_.id,.slice ac nc cc,.slice ap np cp,.slice al nl cl,.slice ak nk ck] wA:=by rw [hwA,hp];exact CB.new _ _ wr
    have BA:Below B w wA:=by rw [hwA];exact HBEL.out.alloc (Nat.le_trans HBEL0 HBEL.out.size) _
    have hpA:wA.heap.size=p+1:=by rw [hwA,hp];simp
    have HPA:=hid hpA
    rw [<- hwA]
    have hp2:p<wA.heap.size:=by omega
    rw [<- hp]
    clear hwA hp hpA HNU HBEL c0 c1 c2 c3 c4 c5 c6 c7 c8 c9 c10
    have HNA:=hid NA
    have HCA:=hid CA
    have HBA:=hid BA
    clear NA CA BA
    go_cut [10] (fun s10 wx=>∃ p',s10=.pointer (some ⟨p',0,none⟩)/\ViB q B p sk v1 nk_ rows1 p [.int .i64 kd,.int .i64 lv,.string i,.string t,.string d,.string ti,.string at_.id,.slice ac nc cc,.slice ap np cp,.slice al nl cl,.slice ak nk ck] p' [.string at_.id,.string (kindS free kd i at_.id),.string ByteArray.empty,.slice none 0 0] w wx)
    case first=>
     have d0:=HCA.out.cell 0 _ rfl
     have d1:=HCA.out.cell 1 _ rfl
     have d2:=HCA.out.cell 2 _ rfl
     have d3:=HCA.out.cell 3 _ rfl
     have d4:=HCA.out.cell 4 _ rfl
     have d5:=HCA.out.cell 5 _ rfl
     have d6:=HCA.out.cell 6 _ rfl
     have d7:=HCA.out.cell 7 _ rfl
     have d8:=HCA.out.cell 8 _ rfl
     have d9:=HCA.out.cell 9 _ rfl
     have d10:=HCA.out.cell 10 _ rfl
     have HK:=hid (fun w=>kindOf_any free kd lv i t d ti at_ ac ap al ak nc cc np cp nl cl nk ck w)
     have hBA:B<=wA.heap.size:=Nat.le_trans HBEL0 HBA.out.size
     have M1:=hid (ViB.a1 HNA.out HCA.out HBA.out hBA (.cells #[.int .i64 kd,.int .i64 lv,.string i,.string t,.string d,.string ti,.string at_.id,.slice ac nc cc,.slice ap np cp,.slice al nl cl,.slice ak nk ck] 53) [.string at_.id,.string (kindS free kd i at_.id),.string ByteArray.empty,.slice none 0 0])
     have M2:=hid (ViB.a2 HNA.out HCA.out HBA.out hBA (.cells #[.int .i64 kd,.int .i64 lv,.string i,.string t,.string d,.string ti,.string at_.id,.slice ac nc cc,.slice ap np cp,.slice al nl cl,.slice ak nk ck] 53) [.string at_.id,.string (kindS free kd i at_.id),.string ByteArray.empty,.slice none 0 0])
     go_region_with (go_at_call 48;refine (HK.out _).mono ?_;rintro e w1 ⟨rfl,rfl⟩)
     all_goals
      go_wp2_with fail
      go_meet
      first | exact ⟨_,rfl,M1.out⟩ | exact ⟨_,rfl,M2.out⟩
    case rest=>
     obtain ⟨p',rfl,hvi⟩:=hcut
     obtain ⟨w5,hw5⟩:∃ w5:World,w5=wc:=⟨_,rfl⟩
     subst hw5
     have HVI:=hid hvi
     have g1:=hvi.b10.cell 1 _ rfl
     clear hvi HNA HCA HBA HPA hp2
     have HRL2:=hid (fun (wq:World) (h:Below B w5 wq)=>HR0.out.line.below (HVI.out.bel.trans h))
     have HPG:=hid (show q.pS≠1 by have:=HOK.out;unfold Pk.ok at this;omega)
     have HPM:=hid (show q.pM≠1 by have:=HOK.out;unfold Pk.ok at this;omega)
     have hpC:q.pC≠q.pM:=by have:=HOK.out;unfold Pk.ok at this;omega
     have hpM:B<=q.pM:=by have:=HOK.out;unfold Pk.ok at this;omega
     have HRK2:=hid (fun (wq:World) (h:Below B w5 wq)=>HR0.out.kids.below (HVI.out.bel.trans h))
     have hBw:B<=w5.heap.size:=Nat.le_trans HBEL0 HVI.out.bel.size
     obtain ⟨KS,hKS⟩:∃ KS,KS=kindS free kd i at_.id:=⟨_,rfl⟩
     obtain ⟨R,hNV⟩:∃ R,R=numVal free sk kd lv i at_ li ks:=⟨_,rfl⟩
     rw [<- hKS] at HVI g1
     have HKS:=hid hKS
     have HNV:=hid hNV
     clear hKS hNV
     go_upto_block 2 with (fail)
     -- <<B
     go_cut [] (fun wx=>ViC q B p v1 nk_ rows1 [.int .i64 kd,.int .i64 lv,.string i,.string t,.string d,.string ti,.string at_.id,.slice ac nc cc,.slice ap np cp,.slice al nl cl,.slice ak nk ck] p' at_.id KS R w wx)
     case first=>
      by_cases h1:kd=2/\free=true
      ·obtain rfl:KS=secS:=HKS.out.trans (if_pos h1)
       obtain rfl:R=({ sk with c:=cntUp sk.c (lvlOf lv) },valS (cntUp sk.c (lvlOf lv)) (lvlOf lv),li):=HNV.out.trans (if_pos h1)
       clear HKS HNV h1
       have q1:(secS.toList==[115,101,99,116,105,111,110])=true:=by rw [Lib.toList_data];rfl
       have e1:=HVI.out.b9.cell 1 _ rfl
       have e9:=HVI.out.b9.cell 9 _ rfl
       have NX:=hid (next_any q.tS q.pS sk.c lv w5.drew HVI.out.nu.c6 (fun i=>Nat.le_trans (HNS.out.c i) (by omega)) HVI.out.drew.nu.sec HVI.out.drew.nu.pt HPG.out)
       have CL:=hid (fun (wq:World) (h:Below B w5 wq)=>cCopyLine_any (Inl.szL li) li B (.slice al nl cl) wq (Nat.le_refl _) (by omega) (HRL2.out wq h) (Nat.le_trans hBw h.size) hn3)
       have hpS:B<=q.pS:=by have:=HOK.out;unfold Pk.ok at this;omega
       go_wp2_with fail
       go_region_with (first
        | (go_at_call 49;refine NX.out.mono ?_;rintro e w6 ⟨rfl,hcb6,hg6⟩;have V6:=HVI.out.drew.secs HBEL0 HOK.out hg6 hcb6 (by simp [cntUp]);have e9:=V6.b9.cell 9 _ rfl;have CL6:=CL.out w6 (((Below.refl B w5).drew).grown hg6 hBw (fun j hj=>by have:=Option.some.inj hj;omega)))
        | (go_at_call 50;refine CL6.mono ?_;rintro e w7 ⟨vl7,rfl,hli7,b7⟩;obtain ⟨al7,nl7,cl7,rfl⟩:=Rd.sl_form hli7;have V7:=V6.grown HBEL0 (q02 b7);have x2:=V7.b10.cell 2 _ rfl;have x3:=V7.b10.cell 3 _ rfl;have y2:=q1c V7.b10 2;have y3:=q1c V7.b10 3))
       all_goals
        have hp6:=V6.b10.lt
        have V7H:=hid V7
        have LI7:=hid (hli7.weaken (ok':=(p'<·)) (fun b hb=>by omega))
        clear V6 V7 hli7 hp6 x2 x3 y2 y3
        go_wp2_with fail
        go_meet
        exact ⟨_,nk_,(V7H.out.set HOK.out 2 _).set HOK.out 3 _,(LI7.out.above (Above.set 2 _)).above (Above.set 3 _),by omega⟩
      ·by_cases h2:kd=13/\i=figS
       ·obtain rfl:KS=figS:=HKS.out.trans (by unfold kindS;rw [if_neg h1,if_pos ⟨h2.1,.inl h2.2⟩];exact h2.2)
        obtain rfl:R=({ sk with f:=sk.f+1 },decS (sk.f+1),capL ks):=HNV.out.trans (by unfold numVal;rw [if_neg h1,if_pos h2])
        clear HKS HNV h1 h2
        have q1:(figS.toList==[115,101,99,116,105,111,110])=false:=by rw [Lib.toList_data];rfl
        have q2:(figS.toList==[102,105,103,117,114,101])=true:=by rw [Lib.toList_data];rfl
        have e10:=HVI.out.b9.cell 10 _ rfl
        have eK:=HVI.out.nu.bK.cell 0 _ rfl
        unfold Pk.cnt at eK
        obtain ⟨f5,hN5,hF5⟩:=HVI.out.drew.nu.num
        have hnf:=HNS.out.f
        have hnn:=HNS.out.n
        have CN:=hid (count1_any figS q.pC q.pM nk_ sk.f f5 w5.drew (by decide) (HVI.out.drew.nu.bC.cell 0 _ rfl) hN5 hF5.1 (by omega) (by unfold maxLen;omega) HVI.out.drew.nu.pt HPM.out (by omega))
        have HF6:=hid hF5.fig'
        have CP:=hid (fun (wq:World) (h:Below B w5 wq)=>caption_any ks (.slice ak nk ck) wq hn5 ((HRK2.out wq h).weaken (fun b hb=>Nat.lt_of_lt_of_le hb (Nat.le_trans hBw h.size))))
        clear hN5 hF5
        go_wp2_with fail
        go_region_with (first
         | (go_at_call 45;refine CN.out.mono ?_;rintro e w6 ⟨rfl,hN6,hg6⟩;have V6:=HVI.out.drew.maps (s':={ sk with f:=sk.f+1 }) HBEL0 HOK.out ⟨rfl,rfl⟩ hg6 hN6 HF6.out;have e10:=V6.b9.cell 10 _ rfl;have CP6:=CP.out w6 (((Below.refl B w5).drew).grown hg6 hBw (fun j hj=>by have:=Option.some.inj hj;omega)))
         | (go_at_call 51;refine CP6.mono ?_;rintro e w7 ⟨vl7,rfl,hli7,b7⟩;obtain ⟨al7,nl7,cl7,rfl⟩:=Rd.sl_form hli7;have V7:=V6.grown HBEL0 (q02 b7);have x2:=V7.b10.cell 2 _ rfl;have x3:=V7.b10.cell 3 _ rfl;have y2:=q1c V7.b10 2;have y3:=q1c V7.b10 3))
        all_goals
         have hp6:=V6.b10.lt
         have V7H:=hid V7
         have LI7:=hid (hli7.weaken (ok':=(p'<·)) (fun b hb=>by omega))
         clear V6 V7 hli7 hp6 x2 x3 y2 y3
         go_wp2_with fail
         go_meet
         exact ⟨_,nk_+1,(V7H.out.set HOK.out 2 _).set HOK.out 3 _,(LI7.out.above (Above.set 2 _)).above (Above.set 3 _),by omega⟩
       ·by_cases h3:kd=13/\i=tabS
        ·obtain rfl:KS=tabS:=HKS.out.trans (by unfold kindS;rw [if_neg h1,if_pos ⟨h3.1,.inr h3.2⟩];exact h3.2)
         obtain rfl:R=({ sk with t:=sk.t+1 },decS (sk.t+1),capL ks):=HNV.out.trans (by unfold numVal;rw [if_neg h1,if_neg h2,if_pos h3])
         clear HKS HNV h1 h2 h3
         have q1:(tabS.toList==[115,101,99,116,105,111,110])=false:=by rw [Lib.toList_data];rfl
         have q2:(tabS.toList==[102,105,103,117,114,101])=false:=by rw [Lib.toList_data];rfl
         have q3:(tabS.toList==[116,97,98,108,101])=true:=by rw [Lib.toList_data];rfl
         have e10:=HVI.out.b9.cell 10 _ rfl
         have eK:=HVI.out.nu.bK.cell 0 _ rfl
         unfold Pk.cnt at eK
         obtain ⟨f5,hN5,hF5⟩:=HVI.out.drew.nu.num
         have hnf:=HNS.out.t
         have hnn:=HNS.out.n
         have CN:=hid (count1_any tabS q.pC q.pM nk_ sk.t f5 w5.drew (by decide) (HVI.out.drew.nu.bC.cell 0 _ rfl) hN5 hF5.2.1 (by omega) (by unfold maxLen;omega) HVI.out.drew.nu.pt HPM.out (by omega))
         have HF6:=hid hF5.tab'
         have CP:=hid (fun (wq:World) (h:Below B w5 wq)=>caption_any ks (.slice ak nk ck) wq hn5 ((HRK2.out wq h).weaken (fun b hb=>Nat.lt_of_lt_of_le hb (Nat.le_trans hBw h.size))))
         clear hN5 hF5
         go_wp2_with fail
         go_region_with (first
          | (go_at_call 45;refine CN.out.mono ?_;rintro e w6 ⟨rfl,hN6,hg6⟩;have V6:=HVI.out.drew.maps (s':={ sk with t:=sk.t+1 }) HBEL0 HOK.out ⟨rfl,rfl⟩ hg6 hN6 HF6.out;have e10:=V6.b9.cell 10 _ rfl;have CP6:=CP.out w6 (((Below.refl B w5).drew).grown hg6 hBw (fun j hj=>by have:=Option.some.inj hj;omega)))
          | (go_at_call 51;refine CP6.mono ?_;rintro e w7 ⟨vl7,rfl,hli7,b7⟩;obtain ⟨al7,nl7,cl7,rfl⟩:=Rd.sl_form hli7;have V7:=V6.grown HBEL0 (q02 b7);have x2:=V7.b10.cell 2 _ rfl;have x3:=V7.b10.cell 3 _ rfl;have y2:=q1c V7.b10 2;have y3:=q1c V7.b10 3))
         all_goals
          have hp6:=V6.b10.lt
          have V7H:=hid V7
          have LI7:=hid (hli7.weaken (ok':=(p'<·)) (fun b hb=>by omega))
          clear V6 V7 hli7 hp6 x2 x3 y2 y3
          go_wp2_with fail
          go_meet
          exact ⟨_,nk_+1,(V7H.out.set HOK.out 2 _).set HOK.out 3 _,(LI7.out.above (Above.set 2 _)).above (Above.set 3 _),by omega⟩
        ·by_cases h4:kd=4/\at_.id.data.toList≠[]
         ·obtain rfl:KS=equS:=HKS.out.trans (by unfold kindS;rw [if_neg h1,if_neg (fun h=>by rcases h.2 with e | e;exact h2 ⟨h.1,e⟩;exact h3 ⟨h.1,e⟩),if_pos h4])
          obtain rfl:R=({ sk with e:=sk.e+1 },decS (sk.e+1),[]):=HNV.out.trans (by unfold numVal;rw [if_neg h1,if_neg h2,if_neg h3,if_pos h4])
          clear HKS HNV h1 h2 h3 h4
          have q1:(equS.toList==[115,101,99,116,105,111,110])=false:=by rw [Lib.toList_data];rfl
          have q2:(equS.toList==[102,105,103,117,114,101])=false:=by rw [Lib.toList_data];rfl
          have q3:(equS.toList==[116,97,98,108,101])=false:=by rw [Lib.toList_data];rfl
          have q4:(equS.toList==[101,113,117,97,116,105,111,110])=true:=by rw [Lib.toList_data];rfl
          have eK:=HVI.out.nu.bK.cell 0 _ rfl
          unfold Pk.cnt at eK
          obtain ⟨f5,hN5,hF5⟩:=HVI.out.nu.num
          have hnf:=HNS.out.e
          have hnn:=HNS.out.n
          have CN:=hid (count1_any equS q.pC q.pM nk_ sk.e f5 w5 (by decide) (HVI.out.nu.bC.cell 0 _ rfl) hN5 hF5.2.2.1 (by omega) (by unfold maxLen;omega) HVI.out.nu.pt HPM.out (by omega))
          have HF6:=hid hF5.equ'
          clear hN5 hF5
          go_wp2_with fail
          refine CN.out.mono ?_
          rintro e w6 ⟨rfl,hN6,hg6⟩
          have V6:=HVI.out.maps (s':={ sk with e:=sk.e+1 }) HBEL0 HOK.out ⟨rfl,rfl⟩ hg6 hN6 HF6.out
          have x2:=V6.b10.cell 2 _ rfl
          have y2:=q1c V6.b10 2
          have V6H:=hid V6
          clear V6 hN6 hg6
          go_wp2_with fail
          go_meet
          exact ⟨_,nk_+1,V6H.out.set HOK.out 2 _,Rd.nil_mk _ _ _,by omega⟩
         ·obtain rfl:KS=⟨#[]⟩:=HKS.out.trans (by unfold kindS;rw [if_neg h1,if_neg (fun h=>by rcases h.2 with e | e;exact h2 ⟨h.1,e⟩;exact h3 ⟨h.1,e⟩),if_neg h4])
          obtain rfl:R=(sk,⟨#[]⟩,[]):=HNV.out.trans (by unfold numVal;rw [if_neg h1,if_neg h2,if_neg h3,if_neg h4])
          clear HKS HNV h1 h2 h3 h4
          have q1:((⟨#[]⟩:ByteArray).toList==[115,101,99,116,105,111,110])=false:=by rw [Lib.toList_data];rfl
          have q2:((⟨#[]⟩:ByteArray).toList==[102,105,103,117,114,101])=false:=by rw [Lib.toList_data];rfl
          have q3:((⟨#[]⟩:ByteArray).toList==[116,97,98,108,101])=false:=by rw [Lib.toList_data];rfl
          have q4:((⟨#[]⟩:ByteArray).toList==[101,113,117,97,116,105,111,110])=false:=by rw [Lib.toList_data];rfl
          go_wp2_with fail
          go_meet
          exact ⟨_,nk_,HVI.out,Rd.nil_mk _ _ _,by omega⟩
     -- B>>
     case rest=>
      obtain ⟨vl,nn2,hvc,hli,hnn⟩:=hcut
      obtain ⟨w6,hw6⟩:∃ w6:World,w6=wc:=⟨_,rfl⟩
      subst hw6
      obtain ⟨s2,val,ln⟩:=R
      have hone:q2g free sk kd lv i at_ li ks={ s2 with out:=s2.out++if KS.data.toList=[] then [] else [⟨at_.id,KS,val,ln⟩] }:=by
       have:=numOne_val free sk kd lv i at_ li ks
       rw [<- HNV.out,<- HKS.out] at this
       exact this
      have HO1:=hid (HNS.out.one hnn free kd lv i at_ li ks)
      obtain ⟨s3,hs3⟩:∃ s3,s3=q2g free sk kd lv i at_ li ks:=⟨_,rfl⟩
      have HS3:=hid hs3
      rw [<- hs3] at hone HO1
      have HONE:=hid hone
      have HVC:=hid hvc
      have HLI:=hid hli
      have hcn:=HO1.out.o
      have hno:s2.out.length<=s3.out.length:=by rw [hone];simp
      clear hone hvc hli hs3 HKS HNV HVI HNS HRL2 g1
      have z1:=HVC.out.b10.cell 1 _ rfl
      go_upto_if 57 with (fail)
      go_cut [] (fun wx=>ViT q B p [.int .i64 kd,.int .i64 lv,.string i,.string t,.string d,.string ti,.string at_.id,.slice ac nc cc,.slice ap np cp,.slice al nl cl,.slice ak nk ck] s3 nn2 w wx)
      case first=>
       by_cases hK0:KS.data.toList=[]
       ·have q1:(!KS.toList.isEmpty)=false:=by rw [Lib.toList_data,hK0];rfl
        have q2:KS.toList.isEmpty=true:=by rw [Lib.toList_data,hK0];rfl
        have h3:s3=s2:=by rw [HONE.out,if_pos hK0,List.append_nil]
        have HT:Hid (ViT q B p [.int .i64 kd,.int .i64 lv,.string i,.string t,.string d,.string ti,.string at_.id,.slice ac nc cc,.slice ap np cp,.slice al nl cl,.slice ak nk ck] s3 nn2 w w6):=by
         show ViT _ _ _ _ _ _ _ _
         rw [h3]
         exact ⟨v1,rows1,HVC.out.nu.up HVC.out.nu.ltU (Nat.le_refl _),HVC.out.b9,HVC.out.bel⟩
        clear h3 hK0 q2
        rw [q1]
        go_wp2
        go_meet
        exact HT.out
       ·have q2:KS.toList.isEmpty=false:=by rw [Lib.toList_data,List.isEmpty_eq_false_iff];exact hK0
        have q1:(!KS.toList.isEmpty)=true:=by rw [q2];rfl
        have h3:s3={ s2 with out:=s2.out++[⟨at_.id,KS,val,ln⟩] }:=by rw [HONE.out,if_neg hK0]
        have H3:=hid h3
        obtain ⟨z0,z2,z3⟩:w6.cell? ⟨p',0,none⟩=some (.string at_.id)/\w6.cell? ⟨p',2,none⟩=some (.string val)/\w6.cell? ⟨p',3,none⟩=some vl:=⟨HVC.out.b10.cell 0 _ rfl,HVC.out.b10.cell 2 _ rfl,HVC.out.b10.cell 3 _ rfl⟩
        have eO:=HVC.out.nu.bO.cell 0 _ rfl
        obtain ⟨al6,nl6,cl6,rfl⟩:=Rd.sl_form HLI.out
        obtain ⟨av6,cv6,rfl⟩:=q09 HVC.out.nu.own
        have hN6:q.N<=w6.heap.size:=Nat.le_trans HVC.out.nu.ltN HVC.out.nu.ltU
        have hBw6:B<=w6.heap.size:=Nat.le_trans HBEL0 HVC.out.bel.size
        clear h3 hK0 q2
        rw [q1]
        go_wp2_with (at_builtin;refine wpList_append_own_at _ rfl _ _ 36 rfl q.N 49 iI _ 4 72 Tryz.underlying36 hiI hzI0 hzI1 hzI2 rfl (by decide) _ _ _ rfl (HVC.out.nu.own.alloc _) ⟨w6.heap.size,0,none⟩ 1 1 [.string at_.id,.string KS,.string val,.slice al6 nl6 cl6] rfl rfl (q0o w6 [.string at_.id,.string KS,.string val,.slice al6 nl6 cl6] _) ?c2 ?c3 ?c4 ?c5 ?_)
        case c2=>exact ⟨rfl,rfl,rfl,rfl⟩
        case c3=>unfold maxLen;omega
        case c4=>omega
        case c5=>omega
        intro v7 w7 hown7 hg7 _ hat7
        obtain ⟨av7,cv7,rfl⟩:=q09 hown7
        have P7:=HVC.out.nu.put HOK.out (x:=⟨at_.id,KS,val,ln⟩) (HLI.out.weaken (fun b hb=>by have:=HVC.out.pp;have:=HVC.out.up;omega)) hg7 hown7 (by simpa using hat7)
        have b7:Below B w w7:=by
         refine (HVC.out.bel.alloc hBw6 _).grown hg7 (by simp;omega) (fun j hj=>?_)
         have h9:q.N<=j:=(HVC.out.nu.own.lt j hj).1
         have:=HOK.out;unfold Pk.ok at this;omega
        have hpo:B<=q.pO:=by have:=HOK.out;unfold Pk.ok at this;omega
        have hpN:q.pO<q.N:=by have:=HOK.out;unfold Pk.ok at this;omega
        have no:∀ b,b<w6.heap.size->(Value.slice av6 s2.out.length cv6).ownBlock≠some b->w7.heap[b]?=w6.heap[b]?:=fun b hb hne=>(hg7.block b (by rw [World.size_alloc];omega) (fun e=>hne e.symm)).trans (Below.heap_alloc _ _ b hb)
        have hol:=HVC.out.nu.bO.lt
        have O7:CB q.tO q.pO [.slice av6 s2.out.length cv6] w7:=(no _ hol (fun e=>by have h9:q.N<=q.pO:=(HVC.out.nu.own.lt _ e).1;omega)).trans HVC.out.nu.bO
        have hB9:=HVC.out.b9
        have hup:=HVC.out.up
        have B7:CB 53 p [.int .i64 kd,.int .i64 lv,.string i,.string t,.string d,.string ti,.string at_.id,.slice ac nc cc,.slice ap np cp,.slice al nl cl,.slice ak nk ck] w7:=(no _ hB9.lt (fun e=>by have h9:=HVC.out.nu.oU _ e;omega)).trans hB9
        have hpp:p≠q.pO:=by have:=HVC.out.nu.ltN;omega
        have HF:Hid (ViT q B p [.int .i64 kd,.int .i64 lv,.string i,.string t,.string d,.string ti,.string at_.id,.slice ac nc cc,.slice ap np cp,.slice al nl cl,.slice ak nk ck] s3 nn2 w (w7.setCell ⟨q.pO,0,none⟩ (.slice av7 (s2.out.length+1) cv7))):=by
         show ViT _ _ _ _ _ _ _ _
         rw [H3.out]
         exact ⟨_,_,P7.up (by simp [World.setCell]) (Nat.le_refl _),(Below.heap_setCell w7 ⟨q.pO,0,none⟩ _ p hpp).trans B7,b7.setCell (p:=⟨q.pO,0,none⟩) hpo _⟩
        have x7:=O7.cell 0 _ rfl
        have y7:=q1c O7 0
        clear P7 b7 no O7 B7 hB9 hup hown7 hg7 hat7
        go_wp2
        go_meet
        exact HF.out
      case rest=>
       obtain ⟨v8,rows8,hN8,hP8,hB8⟩:=hcut
       obtain ⟨w8,hw8⟩:∃ w8:World,w8=wc:=⟨_,rfl⟩
       subst hw8
       have e0:=hP8.cell 0 _ rfl
       have e10:=hP8.cell 10 _ rfl
       have eV:=hN8.bV.cell 0 _ rfl
       unfold Pk.vis at eV
       have CK:=hid (fun fr=>IH.out (Blk.szL ks) (by omega) ks fr q B (M+Blk.szL (l.take k)+1) nn2 s3 (.slice ak nk ck) v8 rows8 w8 (Nat.le_refl _) (HR0.out.kids.below hB8) HOK.out hN8 HO1.out (by omega) hn5)
       have HB8:=hid hB8
       have hnum:Blk.numL free s (l.take (k+1))=Blk.numL (free&&decide (kd=13)) s3 ks:=by rw [HSNOC.out,Blk.num,HS3.out]
       have HNUM:=hid hnum
       have hszz:M+Blk.szL (l.take (k+1))=M+Blk.szL (l.take k)+1+Blk.szL ks:=by omega
       have HSZ:=hid hszz
       clear hN8 hP8 hB8 HVC HLI HONE HO1 HSNOC HS3 hnum hszz hcn hno z1 IH HRK2 HR HR0
       cases free with
       | false=>
        go_wp2_with fail
        refine (CK.out false).mono ?_
        rintro e w9 ⟨rfl,nn9,v9,rows9,hN9,hS9,b9⟩
        have HN9:=hid hN9
        have HS9:=hid hS9
        have B9:=hid (HB8.out.trans b9)
        clear hN9 hS9 b9 CK
        go_wp2
        go_roundw
        case rel=>
         refine ⟨k+1,nn9,v9,rows9,by omega,by go_num,?_,?_,B9.out⟩
         ·rw [HNUM.out];exact HN9.out
         ·rw [HNUM.out,HSZ.out];exact HS9.out
        case measure=>simp [intOf];omega
       | true=>
        by_cases hkd:kd=13
        ·rw [hkd] at e0 HNUM
         have q1:((13:Int)==13)=true:=rfl
         clear hkd
         go_wp2_with fail
         refine (CK.out true).mono ?_
         rintro e w9 ⟨rfl,nn9,v9,rows9,hN9,hS9,b9⟩
         have HN9:=hid hN9
         have HS9:=hid hS9
         have B9:=hid (HB8.out.trans b9)
         clear hN9 hS9 b9 CK
         go_wp2
         go_roundw
         case rel=>
          refine ⟨k+1,nn9,v9,rows9,by omega,by go_num,?_,?_,B9.out⟩
          ·rw [HNUM.out];exact HN9.out
          ·rw [HNUM.out,HSZ.out];exact HS9.out
         case measure=>simp [intOf];omega
        ·have q1:(kd==13)=false:=by rw [beq_eq_false_iff_ne];exact hkd
         rw [show decide (kd=13)=false from decide_eq_false hkd] at HNUM
         clear hkd
         go_wp2_with fail
         refine (CK.out false).mono ?_
         rintro e w9 ⟨rfl,nn9,v9,rows9,hN9,hS9,b9⟩
         have HN9:=hid hN9
         have HS9:=hid hS9
         have B9:=hid (HB8.out.trans b9)
         clear hN9 hS9 b9 CK
         go_wp2
         go_roundw
         case rel=>
          refine ⟨k+1,nn9,v9,rows9,by omega,by go_num,?_,?_,B9.out⟩
          ·rw [HNUM.out];exact HN9.out
          ·rw [HNUM.out,HSZ.out];exact HS9.out
         case measure=>simp [intOf];omega
   ·have hkl:k=l.length:=by omega
    subst hkl
    rw [List.take_length] at hnu hns
    have HNU:=hid hnu
    have HNS:=hid hns
    have HBEL:=hid hbel
    clear hnu hns hbel
    go_wp2
    go_end0
    exact ⟨rfl,nk_,v1,rows1,HNU.out,HNS.out,HBEL.out⟩
open Go.RowKit
section
variable {T:TypeId} {B S:Nat} {w0 w:World} {v0:Value} {s:Ns} {v:Value} {rows:List (List Value)} {wx wy:World}
end
open Go.RowKit
mutual
theorem Blk.num_nsb:∀ (x:Blk) (free:Bool) (s:Ns) (M:Nat),NsB s M 0->NsB (x.num free s) (M+x.sz) 0
 | .mk k lv i t d ti a li ks,free,s,M,h=>by
  rw [Blk.num,Blk.sz]
  have h1:=NsB.one h (nn2:=0) (by omega) free k lv i a li ks
  have h2:=Blk.numL_nsb ks (free&&decide (k=13)) _ _ h1
  exact h2.mono (by omega)
theorem Blk.numL_nsb:∀ (l:List Blk) (free:Bool) (s:Ns) (M:Nat),NsB s M 0->NsB (Blk.numL free s l) (M+Blk.szL l) 0
 | [],_,s,M,h=>by rw [Blk.numL];exact h.mono (by omega)
 | x::l,free,s,M,h=>by
  rw [Blk.numL,Blk.szL]
  have h1:=Blk.num_nsb x free s M h
  have h2:=Blk.numL_nsb l free _ _ h1
  exact h2.mono (by omega)
end
theorem decV_len (n:Nat):(Lib.decDigits n).length<=n+1:=by
 induction n using Nat.strongRecOn with
 | _ n ih=>
  rw [Lib.decDigits]
  split
  ·simp
  ·rename_i h
   rw [List.length_append,List.length_singleton]
   have:=ih (n/10) (by omega)
   omega
theorem dotLV_size (B:Nat):∀ (l:List (List UInt8)),(∀ x∈l,x.length<=B)->(dotL l).length<=l.length*(B+1)
 | [],_=>by simp [dotL]
 | [x],h=>by have:=h x (by simp);simp [dotL];omega
 | x::y::l,h=>by
  have ih:=dotLV_size B (y::l) (fun z hz=>h z (List.mem_cons_of_mem _ hz))
  have hx:=h x (by simp)
  rw [dotL,List.length_append,List.length_cons]
  have e:(x::y::l).length*(B+1)=(y::l).length*(B+1)+(B+1):=by rw [List.length_cons,Nat.succ_mul]
  rw [e]
  omega
theorem valV_size (c:List Nat) (k M:Nat) (hk:k<=6) (h:∀ i,c.getD i 0<=M):(valS c k).size<=6*(M+2):=by
 unfold valS
 show (dotL _).toArray.size<=_
 rw [List.size_toArray]
 have h1:=dotLV_size (M+1) ((c.take k).map Lib.decDigits) (by
  intro x hx
  obtain ⟨n,hn,rfl⟩:=List.mem_map.1 hx
  obtain ⟨i,hi,rfl⟩:=List.mem_iff_getElem.1 (List.mem_of_mem_take hn)
  have h2:=h i
  rw [List.getD_eq_getElem?_getD,List.getElem?_eq_getElem hi] at h2
  simp only [Option.getD_some] at h2
  have:=decV_len c[i]
  omega)
 rw [List.length_map,List.length_take] at h1
 have h3:(min k c.length)*(M+1+1)<=6*(M+2):=Nat.mul_le_mul (by omega) (by omega)
 omega
theorem decSV_size (n:Nat):(decS n).size<=n+1:=by
 unfold decS
 show (Lib.decDigits n).toArray.size<=_
 rw [List.size_toArray];exact decV_len n
def VsOk (V:Nat) (x:Nm):Prop:=x.val.size<=V
theorem one_vs {s:Ns} {M V:Nat} (h:NsB s M 0) (hM:6*(M+3)<=V) (free:Bool) (k lv:Int) (i:ByteArray) (a:At) (li:List Inl) (ks:List Blk) (hs:∀ x∈s.out,VsOk V x):∀ x∈(q2g free s k lv i a li ks).out,VsOk V x:=by
 have add:∀ (y:Nm),VsOk V y->∀ x∈s.out++[y],VsOk V x:=by
  intro y hy x hx
  rcases List.mem_append.1 hx with hx | hx
  ·exact hs x hx
  ·simp at hx;subst hx;exact hy
 have h1:=NsB.one h (nn2:=0) (by omega) free k lv i a li ks
 unfold q2g at h1 ⊢
 split
 ·rename_i hc
  rw [if_pos hc] at h1
  exact add _ (Nat.le_trans (valV_size _ _ _ (lvl_le lv) h1.c) (by omega))
 ·split
  ·exact add _ (Nat.le_trans (decSV_size _) (by have:=h.f;omega))
  ·split
   ·exact add _ (Nat.le_trans (decSV_size _) (by have:=h.t;omega))
   ·split
    ·exact add _ (Nat.le_trans (decSV_size _) (by have:=h.e;omega))
    ·exact hs
mutual
theorem Blk.num_vs (V:Nat):∀ (b:Blk) (free:Bool) (s:Ns) (M:Nat),NsB s M 0->6*(M+b.sz+2)<=V->(∀ x∈s.out,VsOk V x)->∀ x∈(b.num free s).out,VsOk V x
 | .mk k lv i t d ti a li ks,free,s,M,h,hM,hs=>by
  rw [Blk.sz] at hM
  rw [Blk.num]
  exact Blk.numL_vs V ks _ _ (M+1) (NsB.one h (by omega) free k lv i a li ks) (by omega) (one_vs h (by omega) free k lv i a li ks hs)
theorem Blk.numL_vs (V:Nat):∀ (l:List Blk) (free:Bool) (s:Ns) (M:Nat),NsB s M 0->6*(M+Blk.szL l+2)<=V->(∀ x∈s.out,VsOk V x)->∀ x∈(Blk.numL free s l).out,VsOk V x
 | [],_,_,_,_,_,hs=>by rw [Blk.numL];exact hs
 | x::l,free,s,M,h,hM,hs=>by
  rw [Blk.szL] at hM
  rw [Blk.numL]
  exact Blk.numL_vs V l _ _ (M+x.sz) (Blk.num_nsb x free s M h) (by omega) (Blk.num_vs V x free s M h (by omega) hs)
end
theorem note_vs (V:Nat):∀ (l:List ByteArray) (j:Nat),j+l.length+2<=V->∀ x∈q1j j l,VsOk V x
 | [],_,_,x,hx=>by simp [q1j] at hx
 | y::l,j,hj,x,hx=>by
  rw [List.length_cons] at hj
  rw [q1j] at hx
  rcases List.mem_cons.1 hx with rfl | hx
  ·exact Nat.le_trans (decSV_size _) (by omega)
  ·exact note_vs V l (j+1) (by omega) x hx
theorem nums_vs (l:List Blk) (h0:NsB ns0 0 0):∀ x∈q25 l,VsOk (6*(Blk.szL l+(Blk.inlsL l).length+3)) x:=by
 intro x hx
 unfold q25 at hx
 rcases List.mem_append.1 hx with hx | hx
 ·exact Blk.numL_vs _ l true ns0 0 h0 (by omega) (by simp [ns0]) x hx
 ·refine note_vs _ _ 0 ?_ x hx
  have h2:=noteG_le (defN (Blk.eachL l)) (Blk.inlsL l) []
  unfold notesL
  simp only [List.length_nil] at h2
  omega
end Go.Proofs.YtlbioncagkkkoaaGreatDoor

