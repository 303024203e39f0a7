/- Contracts of (*toc.lister).list and of toc.List. Contract of publisherref24.List. -/
import Derived.Test.YtlbioncagkkkoaaGreatDoorKRtS
import Derived.Test.YtlbioncagkkkoaaGreatDoorKRtO
import Derived.BigQuiet
import Derived.Deep.QuietTactic
import Derived.Deep.RegionHeld3
import Derived.Deep.RegionLaw
import Derived.IntWalk
set_option maxHeartbeats 8000000
set_option maxRecDepth 100000
open Go.Lib (hid)
namespace Go.Proofs.YtlbioncagkkkoaaGreatDoor
open Go.RowKit
set_option linter.unusedVariables false
set_option linter.unusedSimpArgs false
theorem over_any (lv0 lv:Int) (pe:Nat) (w:World) (hc:w.cell? ⟨pe,0,none⟩=some (.int .i64 lv0)) :
  Calls Tryz.prog 88 #[.int .i64 lv,.pointer (some ⟨pe,0,none⟩)] w fun e w'=>e=.returned (.bool (decide (lv0<lv)))/\w'=w:=by
 go_enter Tryz.func88,Tryz.ntmps88
 go_wp2
 go_ret
 exact ⟨rfl,rfl⟩
theorem allIn_any (lv:Int) (w:World) :
  Calls Tryz.prog 57 #[.int .i64 lv] w fun e w'=>e=.returned (.bool true)/\w'=w:=by
 go_enter Tryz.func57,Tryz.ntmps57
 go_wp2
 go_ret
 exact ⟨rfl,rfl⟩
def q0n (lv:Int) (x:En):Bool:=decide (lv<x.lv)
theorem up_lv (lv:Int):Up (q0n lv):=fun a b h1 h2=>by unfold q0n En.over at *;simp at *;omega
theorem over_lv (x:En):x.over=q0n x.lv:=rfl
structure EnsOk (all:List En):Prop where
 len:all.length<=100000
 sh:∀ x∈all,ShOk x
def itemsP (all:List En) (k:Nat) (p:En->Bool):List Blk:=q1r ((all.drop k).takeWhile p)
def endP (all:List En) (k:Nat) (p:En->Bool):Nat:=k+((all.drop k).takeWhile p).length
theorem endP_le (all:List En) (k:Nat) (p:En->Bool) (h:k<=all.length):endP all k p<=all.length:=by
 unfold endP
 have h1:=q26 p (all.drop k)
 rw [List.length_drop] at h1
 omega
theorem endP_ge (all:List En) (k:Nat) (p:En->Bool):k<=endP all k p:=by unfold endP;omega
theorem drop_at (all:List En) (k:Nat) (x:En) (h:all[k]?=some x):all.drop k=x::all.drop (k+1):=by
 obtain ⟨hlt,rfl⟩:=List.getElem?_eq_some_iff.1 h
 exact List.drop_eq_getElem_cons hlt
theorem items_round (all:List En) (k:Nat) (p:En->Bool) (hp:Up p) (x:En) (h:all[k]?=some x) (hx:p x=true) :
  itemsP all k p=itemB x (bulB (itemsP all (k+1) (q0n x.lv)))::itemsP all (endP all (k+1) (q0n x.lv)) p/\endP all (endP all (k+1) (q0n x.lv)) p=endP all k p:=by
 have h1:=drop_at all k x h
 have h2:all.drop (endP all (k+1) (q0n x.lv))=(all.drop (k+1)).dropWhile x.over:=by
  unfold endP
  rw [<- over_lv,dw_drop,List.drop_drop]
 constructor
 ·unfold itemsP
  rw [h1,items_step p hp x _ hx,h2]
  rfl
 ·have h3:=step_len p hp x (all.drop (k+1)) hx
  have h4:endP all (endP all (k+1) (q0n x.lv)) p=endP all (k+1) (q0n x.lv)+((all.drop (endP all (k+1) (q0n x.lv))).takeWhile p).length:=rfl
  rw [h4,h2]
  unfold endP
  rw [h1,h3,over_lv]
  omega
theorem items_stop (all:List En) (k:Nat) (p:En->Bool) (x:En) (h:all[k]?=some x) (hx:p x=false):itemsP all k p=[]/\endP all k p=k:=by
 have h1:=drop_at all k x h
 unfold itemsP endP
 rw [h1,List.takeWhile_cons,if_neg (by simp [hx])]
 exact ⟨q0f,rfl⟩
theorem items_out (all:List En) (k:Nat) (p:En->Bool) (h:all.length<=k):itemsP all k p=[]/\endP all k p=k:=by
 unfold itemsP endP
 rw [List.drop_eq_nil_of_le h]
 exact ⟨q0f,rfl⟩
theorem cb_elev {T:TypeId} {p:Nat} {w:World} {c0 c1 c2 c3 c4 c5 c6 c7 c8 c9 c10:Value} (h:CB T p [c0,c1,c2,c3,c4,c5,c6,c7,c8,c9,c10] w) :
  w.cell? ⟨p,0,none⟩=some c0/\w.cell? ⟨p,1,none⟩=some c1/\w.cell? ⟨p,2,none⟩=some c2/\w.cell? ⟨p,3,none⟩=some c3/\w.cell? ⟨p,4,none⟩=some c4/\w.cell? ⟨p,5,none⟩=some c5 /\
   w.cell? ⟨p,6,none⟩=some c6/\w.cell? ⟨p,7,none⟩=some c7/\w.cell? ⟨p,8,none⟩=some c8/\w.cell? ⟨p,9,none⟩=some c9/\w.cell? ⟨p,10,none⟩=some c10:=
 ⟨h.cell 0 _ rfl,h.cell 1 _ rfl,h.cell 2 _ rfl,h.cell 3 _ rfl,h.cell 4 _ rfl,h.cell 5 _ rfl,h.cell 6 _ rfl,h.cell 7 _ rfl,h.cell 8 _ rfl,h.cell 9 _ rfl,h.cell 10 _ rfl⟩
theorem q0e {w w':World} (h:w.grownBy w' none) (r:Option Nat):w.grownBy w' r:=⟨h.os,h.tape,h.output,h.size,fun b hb _=>h.block b hb (by simp)⟩
theorem q2d {a b c:World} {r row:Option Nat} (h:a.grownBy b r) (k:b.grownBy c row) (hr:∀ g,row=some g->a.heap.size<=g):a.grownBy c r:=
 ⟨k.os.trans h.os,k.tape.trans h.tape,k.output.trans h.output,Nat.le_trans h.size k.size,fun i hi hne=>(k.block i (Nat.lt_of_lt_of_le hi h.size) (fun e=>by have:=hr i e.symm;omega)).trans (h.block i hi hne)⟩
theorem bul_len (l:List Blk):(bulB l).length<=1:=by unfold bulB;split<;>simp
def LtPost (T:TypeId) (pm:Nat) (ea:Option Addr) (ec:Nat) (all:List En) (k:Nat) (p:En->Bool) (w:World) (e:Ending) (w':World):Prop:=
 ∃ v,e=.returned v/\Rd (w.heap.size<=·) w' (q0x (bulB (itemsP all k p))) [v]/\CB T pm [.slice ea all.length ec,.int .i64 ((endP all k p:Nat):Int)] w'/\w.grownBy w' (some pm)
def LtRel (T:TypeId) (pm:Nat) (ea:Option Addr) (ec:Nat) (all:List En) (k:Nat) (p:En->Bool) (w:World) (v:Value) (wr:World):Prop:=
 ∃ (j:Nat) (items:List Blk) (rows:List (List Value)),k<=j/\j<=all.length/\items.length<=j/\(∃ w0:World,w0.heap.size=w.heap.size/\RowU 53 11 (fun _=>False) wr.heap.size w0 (items.map Blk.d) rows v wr) /\
  CB T pm [.slice ea all.length ec,.int .i64 ((j:Nat):Int)] wr/\w.grownBy wr (some pm)/\items++itemsP all j p=itemsP all k p/\endP all j p=endP all k p
theorem one_bls (l:List Blk) (rs:List (List Value)) (ok:Nat->Prop) (w:World) (h:RdL ok w (l.map Blk.d) rs):∀ u∈rs.flatten,u.oneCell'=true:=by
 intro u hu
 obtain ⟨r,hr,hu⟩:=List.mem_flatten.1 hu
 obtain ⟨j,hj,rfl⟩:=List.mem_iff_getElem.1 hr
 have hj2:j<(l.map Blk.d).length:=by rw [<- h.len];exact hj
 obtain ⟨r',hr',hd⟩:=h.get j _ (List.getElem?_eq_getElem hj2)
 rw [List.getElem?_eq_getElem hj] at hr'
 obtain rfl:=Option.some.inj hr'
 rw [List.getElem_map] at hd
 generalize l[j]'(by simpa using hj2)=x at hd
 obtain ⟨k,lv,i,t,d,ti,a,li,ks⟩:=x
 obtain ⟨vc,vp,vl,vk,he,hR⟩:=Blk.open_ hd
 obtain ⟨a1,n1,c1,rfl⟩:=Rd.sl_form hR.at_.cls
 obtain ⟨a2,n2,c2,rfl⟩:=Rd.sl_form hR.at_.prs
 obtain ⟨a3,n3,c3,rfl⟩:=Rd.sl_form hR.line
 obtain ⟨a4,n4,c4,rfl⟩:=Rd.sl_form hR.kids
 rw [he] at hu
 simp at hu
 rcases hu with rfl | rfl | rfl | rfl | rfl | rfl | rfl | rfl | rfl | rfl | rfl<;>rfl
theorem one_elev {k lv:Int} {i t d ti id:ByteArray} {a1 a2 a3 a4:Option Addr} {n1 n2 n3 n4 c1 c2 c3 c4:Nat}:∀ u∈([.int .i64 k,.int .i64 lv,.string i,.string t,.string d,.string ti,.string id,.slice a1 n1 c1,.slice a2 n2 c2,.slice a3 n3 c3,.slice a4 n4 c4]:List Value),u.oneCell'=true:=by
 intro u hu
 simp at hu
 rcases hu with rfl | rfl | rfl | rfl | rfl | rfl | rfl | rfl | rfl | rfl | rfl<;>rfl
theorem lit_rd {T:TypeId} {k n1:Nat} {w:World} {d:D} {r:List Value} (hr:r.length=k) (hx:Rd (n1<=·) w d r) (hn:n1<=w.heap.size):Rd (n1<=·) (w.alloc (.cells r.toArray T)) (.sl k [d]) [.slice (some ⟨w.heap.size,0,none⟩) 1 1]:=by
 have h:=(RowU.lit (T:=T) hr hx).rd
 refine h.weaken (fun b hb=>?_)
 rcases hb with hb | hb
 ·exact hb.1
 ·rw [q17 (by simp)] at hb;omega
theorem listO_any (n:Nat):∀ (all:List En) (k pe pm B:Nat) (lv:Int) (ea:Option Addr) (ec:Nat) (w:World),all.length-k<=n->k<=all.length->EnsOk all->SlAt (·<B) w 5 (all.map En.d) ea ec->B<=pm->CB 90 pm [.slice ea all.length ec,.int .i64 ((k:Nat):Int)] w->w.cell? ⟨pe,0,none⟩=some (.int .i64 lv)->pe≠pm ->
  Calls Tryz.prog 56 #[.pointer (some ⟨pm,0,none⟩),.func (.func 88) #[] #[.pointer (some ⟨pe,0,none⟩)]] w (LtPost 90 pm ea ec all k (q0n lv) w):=by
 induction n using Nat.strongRecOn with
 | _ n ih=>
  intro all k pe pm B lv ea ec w hn hk hok hsl hBp hcb hpe hne
  obtain ⟨iB,hiB,hzB0,hzB1,hzB2⟩:=info_parts infoBl
  have hpm:=hcb.lt
  have hcap:all.length<=ec:=by simpa using hsl.le
  have hmx:=hsl.max
  unfold maxLen at hmx
  have hlen:=hok.len
  have HSL:=hid hsl
  have HOK:=hid hok
  have HPE:=hid hpe
  have IL:Hid (∀ (j q:Nat) (lv':Int) (wz:World),k<=j->j<all.length->SlAt (·<B) wz 5 (all.map En.d) ea ec->CB 90 pm [.slice ea all.length ec,.int .i64 ((j+1:Nat):Int)] wz->wz.cell? ⟨q,0,none⟩=some (.int .i64 lv')->q≠pm ->
    Calls Tryz.prog 56 #[.pointer (some ⟨pm,0,none⟩),.func (.func 88) #[] #[.pointer (some ⟨q,0,none⟩)]] wz (LtPost 90 pm ea ec all (j+1) (q0n lv') wz)):=
   fun j q lv' wz h1 h2 h3 h4 h5 h6=>ih (all.length-(j+1)) (by omega) all (j+1) q pm B lv' ea ec wz (Nat.le_refl _) h2 HOK.out h3 hBp h4 h5 h6
  clear ih hpe
  have R0:Hid (LtRel 90 pm ea ec all k (q0n lv) w (.slice none 0 0) w):=⟨k,[],[],Nat.le_refl _,hk,Nat.zero_le _,⟨w,rfl,RowU.nil _ _ _ _⟩,hcb,World.grownBy.refl w _,List.nil_append _,rfl⟩
  clear hcb hsl hok
  go_enter Tryz.func56,Tryz.ntmps56
  go_wp2
  go_loopw [5] (fun v wr=>LtRel 90 pm ea ec all k (q0n lv) w v wr) (fun _ wr=>all.length-(match wr.cell? ⟨pm,1,none⟩ with | some v=>(intOf v).toNat | none=>0))
  case atStart=>exact R0.out
  case round=>
   clear R0
   obtain ⟨j,items,rows,hkj,hjn,hil,⟨w0,hw0,hrow⟩,hcb,hgr,hit,hen⟩:=hrel
   obtain ⟨ds,hds⟩:∃ ds,ds=items.map Blk.d:=⟨_,rfl⟩
   rw [<- hds] at hrow
   obtain ⟨m,hm⟩:∃ m,m=ds.length:=⟨_,rfl⟩
   have hmi:m=items.length:=by rw [hm,hds,List.length_map]
   have HMI:=hid hmi
   have hmj:m<=100000:=by omega
   have HDN:=hid hm.symm
   have HDS:=hid hds
   obtain ⟨av,cv,rfl,-,-⟩:=hrow.cap hm.symm
   have HROW:=hid hrow
   have HCB:=hid hcb
   have HGR:=hid hgr
   have HIT:=hid hit
   have HEN:=hid hen
   have HIL:=hid hil
   have hwz:=hgr.size
   have bB:Below B w wr:=⟨hgr.os,hgr.tape,hgr.output,hgr.size,fun b hb=>hgr.block b (by omega) (fun e=>by have:=Option.some.inj e;omega)⟩
   have HSLR:=hid (HSL.out.below bB)
   have c0:=hcb.cell 0 _ rfl
   have c1:=hcb.cell 1 _ rfl
   have hpr:wr.cell? ⟨pe,0,none⟩=some (.int .i64 lv):=q0m HGR.out HPE.out (fun e=>hne (Option.some.inj e).symm)
   have HPR:=hid hpr
   have HW0:=hid hw0
   clear hrow hm hds hcb hgr hit hen bB hpr hil hmi hw0
   by_cases hlt:j<all.length
   ·obtain ⟨x,hx⟩:∃ x,all[j]?=some x:=⟨_,List.getElem?_eq_getElem hlt⟩
    have HSH:=hid (HOK.out.sh x (List.mem_of_getElem? hx))
    obtain ⟨g,off,vl,vr,rfl,hgo,hgl,d0,d1,d2,d3,d4,hER⟩:=ens_at HSLR.out hx
    obtain ⟨al,nl,cl,rfl⟩:=Rd.sl_form hER.line
    obtain ⟨ar,nr,cr,rfl⟩:=Rd.sl_form hER.refs
    have HER:=hid hER
    have HX:=hid hx
    obtain ⟨xl,id,tx,line,refs⟩:=x
    dsimp only at d0 d1 d2 d3 d4
    have q0:decide ((j:Int)<(all.length:Int))=true:=decide_eq_true (by omega)
    have hj0:(0:Int)<=(j:Int):=by omega
    have hj1:(j:Int)<(all.length:Int):=by omega
    clear hER hx
    cases hpx:(q0n lv) ⟨xl,id,tx,line,refs⟩ with
    | true=>
     have HPX:=hid hpx
     have q1:decide (lv<xl)=true:=hpx
     clear hpx
     go_wp2_with fail
     go_quiet ((go_at_call 88;refine Calls.quiet_of_same (over_any lv xl pe _ HPR.out)))
     clear q0 q1
     obtain ⟨wq,hwq⟩:∃ wq,wq=wr.drewN nq:=⟨_,rfl⟩
     have gq:wr.grownBy wq none:=by rw [hwq];exact ⟨rfl,rfl,rfl,Nat.le_refl _,fun _ _ _=>rfl⟩
     have hzq:wq.heap.size=wr.heap.size:=by rw [hwq];rfl
     rw [<- hwq]
     obtain ⟨c0,c1,d0,d1,d2,d3,d4⟩:wq.cell? ⟨pm,0,none⟩=some (.slice (some ⟨g,off,none⟩) all.length ec)/\wq.cell? ⟨pm,1,none⟩=some (.int .i64 ((j:Nat):Int))/\wq.cell? ⟨g,off+j*5,none⟩=some (.int .i64 xl)/\wq.cell? ⟨g,off+j*5+1,none⟩=some (.string id)/\wq.cell? ⟨g,off+j*5+2,none⟩=some (.string tx)/\wq.cell? ⟨g,off+j*5+3,none⟩=some (.slice al nl cl)/\wq.cell? ⟨g,off+j*5+4,none⟩=some (.slice ar nr cr):=by rw [hwq];exact ⟨c0,c1,d0,d1,d2,d3,d4⟩
     have HZQ:=hid hzq
     clear hwq hzq
     go_wp2_with fail
     have S0:wq.drew.cell? ⟨pm,0,none⟩=some (.slice (some ⟨g,off,none⟩) all.length ec)/\wq.drew.cell? ⟨pm,1,none⟩=some (.int .i64 ((j:Nat):Int))/\wq.drew.cell? ⟨g,off+j*5,none⟩=some (.int .i64 xl)/\wq.drew.cell? ⟨g,off+j*5+1,none⟩=some (.string id)/\wq.drew.cell? ⟨g,off+j*5+2,none⟩=some (.string tx)/\wq.drew.cell? ⟨g,off+j*5+3,none⟩=some (.slice al nl cl)/\wq.drew.cell? ⟨g,off+j*5+4,none⟩=some (.slice ar nr cr):=⟨c0,c1,d0,d1,d2,d3,d4⟩
     go_region_held3 (fun w'=>w'.cell? ⟨pm,0,none⟩=some (.slice (some ⟨g,off,none⟩) all.length ec)/\w'.cell? ⟨pm,1,none⟩=some (.int .i64 ((j:Nat):Int))/\w'.cell? ⟨g,off+j*5,none⟩=some (.int .i64 xl)/\w'.cell? ⟨g,off+j*5+1,none⟩=some (.string id)/\w'.cell? ⟨g,off+j*5+2,none⟩=some (.string tx)/\w'.cell? ⟨g,off+j*5+3,none⟩=some (.slice al nl cl)/\w'.cell? ⟨g,off+j*5+4,none⟩=some (.slice ar nr cr))
      (first | exact S0 | go_keep) (fail)
     obtain ⟨q,hq⟩:∃ q,q=wq.heap.size:=⟨_,rfl⟩
     obtain ⟨w3,hw3⟩:∃ w3,w3=(wq.alloc (.cells #[.int .i64 xl,.string id,.string tx,.slice al nl cl,.slice ar nr cr] 42)).drew:=⟨_,rfl⟩
     have g3:wr.grownBy w3 none:=q05 gq (by rw [hw3];exact q05 (World.grownBy_alloc wq _ none) ⟨rfl,rfl,rfl,Nat.le_refl _,fun _ _ _=>rfl⟩)
     have P3:CB 42 q [.int .i64 xl,.string id,.string tx,.slice al nl cl,.slice ar nr cr] w3:=by rw [hw3,hq];exact CB.new _ _ wq
     have C3:=q04 HCB.out g3 (by simp)
     rw [<- hw3,<- hq]
     have hqr:wr.heap.size<=q:=by rw [hq,HZQ.out];exact Nat.le_refl _
     have hqn:q≠pm:=by omega
     have c0:=C3.cell 0 _ rfl
     have c1:=C3.cell 1 _ rfl
     have f1:=q1c C3 1
     clear S0 d0 d1 d2 d3 d4 hw3 hq gq
     (try clear hHeld)
     go_upto_region 5 with (fail)
     obtain ⟨w4,hw4⟩:∃ w4,w4=w3.setCell ⟨pm,1,none⟩ (.int .i64 ((j:Int)+1)):=⟨_,rfl⟩
     rw [<- hw4]
     have g34:w3.grownBy w4 (some pm):=by rw [hw4];exact ⟨rfl,rfl,rfl,by simp [World.setCell],fun b hb hne'=>Below.heap_setCell w3 ⟨pm,1,none⟩ _ b (fun e=>hne' (by rw [e]))⟩
     have g4:wr.grownBy w4 (some pm):=q05 (q0e g3 _) g34
     have C4:CB 90 pm [.slice (some ⟨g,off,none⟩) all.length ec,.int .i64 ((j+1:Nat):Int)] w4:=by rw [hw4];exact cb_set C3 1 _
     have P4:=hid (q04 P3 g34 (fun e=>hqn (Option.some.inj e)))
     have hB4:Below B wr w4:=⟨g4.os,g4.tape,g4.output,g4.size,fun b hb=>g4.block b (by omega) (fun e=>by have:=Option.some.inj e;omega)⟩
     have SL4:=hid (HSLR.out.below hB4)
     have ER4:EnR (·<B) w4 line refs (.slice al nl cl) (.slice ar nr cr):=⟨HER.out.line.below hB4,HER.out.refs.below hB4⟩
     have hz4:=g4.size
     have SE:=hid (shEntry_any ⟨xl,id,tx,line,refs⟩ (.slice al nl cl) (.slice ar nr cr) B w4 ER4 (by omega) HSH.out)
     have C4H:=hid C4
     have G4:=hid g4
     obtain ⟨e0,e1,e2,e3,e4⟩:w4.cell? ⟨q,0,none⟩=some (.int .i64 xl)/\w4.cell? ⟨q,1,none⟩=some (.string id)/\w4.cell? ⟨q,2,none⟩=some (.string tx)/\w4.cell? ⟨q,3,none⟩=some (.slice al nl cl)/\w4.cell? ⟨q,4,none⟩=some (.slice ar nr cr):=⟨P4.out.cell 0 _ rfl,P4.out.cell 1 _ rfl,P4.out.cell 2 _ rfl,P4.out.cell 3 _ rfl,P4.out.cell 4 _ rfl⟩
     clear c0 c1 f1 C3 P3 g3 g34 g4 C4 hw4 hB4 ER4 HSLR
     go_wp2_with fail
     (with_reducible refine SE.out.mono ?_)
     rintro e w5 ⟨vk5,rfl,hk5,b5⟩
     obtain ⟨ak5,nk5,ck5,rfl⟩:=Rd.sl_form hk5
     have hz5:=b5.size
     obtain ⟨w6,hw6⟩:∃ w6,w6=(w5.alloc (.cells #[.int .i64 9,.string ⟨#[]⟩,.string (hashB++id),.string ⟨#[]⟩,.string ⟨#[]⟩,.slice none 0 0,.slice none 0 0,.slice none 0 0,.slice none 0 0,.slice ak5 nk5 ck5] 47)).alloc (.cells #[.int .i64 1,.int .i64 0,.string ⟨#[]⟩,.string ⟨#[]⟩,.string ⟨#[]⟩,.string ⟨#[]⟩,.string ⟨#[]⟩,.slice none 0 0,.slice none 0 0,.slice (some ⟨w5.heap.size,0,none⟩) 1 1,.slice none 0 0] 53):=⟨_,rfl⟩
     have b56:Below w5.heap.size w5 w6:=by rw [hw6];exact ((Below.refl _ _).alloc (Nat.le_refl _) _).alloc (by simp) _
     obtain ⟨q2,hq2⟩:∃ q2,q2=w5.heap.size+1:=⟨_,rfl⟩
     have K6:CB 53 q2 [.int .i64 1,.int .i64 0,.string ⟨#[]⟩,.string ⟨#[]⟩,.string ⟨#[]⟩,.string ⟨#[]⟩,.string ⟨#[]⟩,.slice none 0 0,.slice none 0 0,.slice (some ⟨w5.heap.size,0,none⟩) 1 1,.slice none 0 0] w6:=by
      have:=CB.new 53 [.int .i64 1,.int .i64 0,.string ⟨#[]⟩,.string ⟨#[]⟩,.string ⟨#[]⟩,.string ⟨#[]⟩,.string ⟨#[]⟩,.slice none 0 0,.slice none 0 0,.slice (some ⟨w5.heap.size,0,none⟩) 1 1,.slice none 0 0] (w5.alloc (.cells #[.int .i64 9,.string ⟨#[]⟩,.string (hashB++id),.string ⟨#[]⟩,.string ⟨#[]⟩,.slice none 0 0,.slice none 0 0,.slice none 0 0,.slice none 0 0,.slice ak5 nk5 ck5] 47))
      rw [World.size_alloc] at this
      rw [hw6,hq2];exact this
     have hLN:Rd (wr.heap.size<=·) w6 (q0w [q21 ⟨xl,id,tx,line,refs⟩]) [.slice (some ⟨w5.heap.size,0,none⟩) 1 1]:=by
      have h1:Rd (wr.heap.size<=·) w5 (q21 ⟨xl,id,tx,line,refs⟩).d [.int .i64 9,.string ⟨#[]⟩,.string (hashB++id),.string ⟨#[]⟩,.string ⟨#[]⟩,.slice none 0 0,.slice none 0 0,.slice none 0 0,.slice none 0 0,.slice ak5 nk5 ck5]:=
       Inl.mk_ 9 ⟨#[]⟩ (hashB++id) ⟨#[]⟩ (a:=at0) ⟨⟨Rd.nil_mk _ _ _,Rd.nil_mk _ _ _⟩,Rd.nil_mk _ _ _,Rd.nil_mk _ _ _,hk5.weaken (fun b hb=>Nat.le_trans hz4 hb)⟩
      have h2:=lit_rd (T:=47) (k:=10) rfl h1 (by omega)
      rw [hw6]
      exact h2.up0 ((Below.refl _ _).alloc (Nat.le_refl _) _)
     have PA6:=hid (show Rd (wr.heap.size<=·) w6 (paraB ⟨xl,id,tx,line,refs⟩).d [.int .i64 1,.int .i64 0,.string ⟨#[]⟩,.string ⟨#[]⟩,.string ⟨#[]⟩,.string ⟨#[]⟩,.string ⟨#[]⟩,.slice none 0 0,.slice none 0 0,.slice (some ⟨w5.heap.size,0,none⟩) 1 1,.slice none 0 0] from
      Blk.mk_ 1 0 ⟨#[]⟩ ⟨#[]⟩ ⟨#[]⟩ ⟨#[]⟩ (a:=at0) ⟨⟨Rd.nil_mk _ _ _,Rd.nil_mk _ _ _⟩,hLN,Rd.nil_mk _ _ _⟩)
     have b46:Below w4.heap.size w4 w6:=q01 b5 b56
     have C6:=hid (C4H.out.below b46)
     have P6:=hid (P4.out.below b46)
     have SL6:=hid (SL4.out.below (b46.mono (by omega)))
     have G6:=hid (q05 G4.out (q0e (q02 b46) _))
     have K6H:=hid K6
     have hz6:=b46.size
     have hq26:q2<w6.heap.size:=K6.lt
     have hqq:wr.heap.size<=q2:=by omega
     clear SE hk5 b5 b56 b46 hLN K6 C4H P4 SL4 G4 e0 e1 e2 e3 e4
     go_upto_region 6 with (fail)
     rw [<- hw6,<- hq2]
     have HQ2:=hid hq2
     clear hw6 hq2
     obtain ⟨KI,hKI⟩:∃ KI,KI=bulB (itemsP all (j+1) (q0n xl)):=⟨_,rfl⟩
     obtain ⟨me,hme⟩:∃ me,me=(KI.map Blk.d).length:=⟨_,rfl⟩
     have hme1:me<=1:=by rw [hme,List.length_map,hKI];exact bul_len _
     have HME:=hid hme.symm
     have HKI:=hid hKI
     have ILC:Hid (∀ (wz:World),Below w6.heap.size w6 wz->Calls Tryz.prog 56 #[.pointer (some ⟨pm,0,none⟩),.func (.func 88) #[] #[.pointer (some ⟨q,0,none⟩)]] wz (LtPost 90 pm (some ⟨g,off,none⟩) ec all (j+1) (q0n xl) wz)):=
      fun wz h=>IL.out j q xl wz hkj hlt (SL6.out.below (h.mono (by omega))) (C6.out.below h) ((P6.out.below h).cell 0 _ rfl) hqn
     have BD:=hid (show Below w6.heap.size w6 w6.drew from ⟨rfl,rfl,rfl,Nat.le_refl _,fun _ _=>rfl⟩)
     have BL:=hid (show Below w6.heap.size w6 (w6.alloc (.cells #[.int .i64 1,.int .i64 0,.string ⟨#[]⟩,.string ⟨#[]⟩,.string ⟨#[]⟩,.string ⟨#[]⟩,.string ⟨#[]⟩,.slice none 0 0,.slice none 0 0,.slice (some ⟨w5.heap.size,0,none⟩) 1 1,.slice none 0 0] 53)).drew from ((Below.refl _ w6).alloc (Nat.le_refl _) _).drew)
     have LITA:=hid (RowU.lit (T:=53) (k:=11) (w:=w6.drew) (n1:=wr.heap.size) (d:=(paraB ⟨xl,id,tx,line,refs⟩).d) (r:=[.int .i64 1,.int .i64 0,.string ⟨#[]⟩,.string ⟨#[]⟩,.string ⟨#[]⟩,.string ⟨#[]⟩,.string ⟨#[]⟩,.slice none 0 0,.slice none 0 0,.slice (some ⟨w5.heap.size,0,none⟩) 1 1,.slice none 0 0]) rfl (Rd.keep (w:=w6) (w':=w6.drew) (fun b hb _=>⟨hb,rfl⟩) _ _ PA6.out))
     have HL1:Hid ([(paraB ⟨xl,id,tx,line,refs⟩).d].length=1):=rfl
     have hz66:w6.drew.heap.size=w6.heap.size:=rfl
     obtain ⟨k0,k1,k2,k3,k4,k5,k6,k7,k8,k9,k10⟩:=cb_elev K6H.out
     have HZ66:=hid hz66
     clear hKI hme hz66
     go_cut [8] (fun v8 wx=>∃ a9 c9,v8=.slice a9 (1+me) c9/\Rd (wr.heap.size<=·) wx (.sl 11 ([(paraB ⟨xl,id,tx,line,refs⟩).d]++KI.map Blk.d)) [.slice a9 (1+me) c9]/\CB 90 pm [.slice (some ⟨g,off,none⟩) all.length ec,.int .i64 ((endP all (j+1) (q0n xl):Nat):Int)] wx/\wr.grownBy wx (some pm))
     case first=>
      go_region_law (first
       | (go_simp;go_at_call 56;(with_reducible refine (ILC.out _ (by first | exact BD.out | exact BL.out)).mono ?_);rintro e w7 ⟨v7,rfl,hk7,hcb7,hg7⟩;rw [<- HKI.out] at hk7;obtain ⟨a7,c7,hv7,hs7⟩:=Rd.sl_open hk7;obtain rfl:v7=.slice a7 me c7:=(by rw [HME.out] at hv7;simpa using hv7);have K7:CB 53 q2 [.int .i64 1,.int .i64 0,.string ⟨#[]⟩,.string ⟨#[]⟩,.string ⟨#[]⟩,.string ⟨#[]⟩,.string ⟨#[]⟩,.slice none 0 0,.slice none 0 0,.slice (some ⟨w5.heap.size,0,none⟩) 1 1,.slice none 0 0] w7:=(hg7.block q2 (by simp;omega) (fun e=>by have:=Option.some.inj e;omega)).trans (by first | exact K6H.out | exact (Below.heap_alloc _ _ q2 hq26).trans K6H.out);obtain ⟨k0,k1,k2,k3,k4,k5,k6,k7,k8,k9,k10⟩:=cb_elev K7)
       | (have hg7a:World.grownBy (w6.drew.alloc (.cells #[.int .i64 1,.int .i64 0,.string ⟨#[]⟩,.string ⟨#[]⟩,.string ⟨#[]⟩,.string ⟨#[]⟩,.string ⟨#[]⟩,.slice none 0 0,.slice none 0 0,.slice (some ⟨w5.heap.size,0,none⟩) 1 1,.slice none 0 0] 53)) w7 (some pm):=hg7;obtain ⟨w0a,hz0a,UA⟩:=RowU.hopG LITA.out (by rw [q17 (by simp)];show pm<w6.heap.size;omega) (fun h=>by omega) hg7a;rw [q17 (by simp)] at hz0a;refine step_puts rfl (.tmp 56) (.tmp 59) 23 rfl iB _ 192 Tryz.underlying23 hiB hzB0 hzB1 hzB2 rfl (by decide) UA (fun b hb=>by rw [hz0a];exact hb.2) (.slice a7 me c7) (hk7.weaken (fun b hb=>.inr (by simpa using hb))) (fun rs ok' h=>one_bls KI rs ok' _ h) HL1.out HME.out (by omega) (by decide) rfl rfl ?_;intro a9 c9 rows9 w9 hrow9 hg9;have KIDS:Rd (wr.heap.size<=·) w9 (.sl 11 ([(paraB ⟨xl,id,tx,line,refs⟩).d]++KI.map Blk.d)) [.slice a9 (1+me) c9]:=hrow9.rd.weaken (fun b hb=>by rcases hb with hb | hb;exact hb.1;rw [hz0a] at hb;have h9:w6.heap.size<=b:=hb;omega);have CB9:CB 90 pm [.slice (some ⟨g,off,none⟩) all.length ec,.int .i64 ((endP all (j+1) (q0n xl):Nat):Int)] w9:=q04 hcb7 hg9 (fun e=>by have h9:pm=w6.heap.size:=Option.some.inj e;omega);have GR9:wr.grownBy w9 (some pm):=q2d (q05 (q05 G6.out (q0e (q02 BL.out) _)) hg7) hg9 (fun g9 e=>by have h9:w6.heap.size=g9:=Option.some.inj e;omega))
       | (have hg7b:World.grownBy w6.drew w7 (some pm):=hg7;have hz7:w6.heap.size<=w7.heap.size:=hg7b.size;have PA7:Rd (wr.heap.size<=·) w7 (paraB ⟨xl,id,tx,line,refs⟩).d [.int .i64 1,.int .i64 0,.string ⟨#[]⟩,.string ⟨#[]⟩,.string ⟨#[]⟩,.string ⟨#[]⟩,.string ⟨#[]⟩,.slice none 0 0,.slice none 0 0,.slice (some ⟨w5.heap.size,0,none⟩) 1 1,.slice none 0 0]:=Rd.keep (w:=w6) (w':=w7) (ok:=(wr.heap.size<=·)) (fun b hb hlt'=>⟨hb,hg7b.block b hlt' (fun e=>by have:=Option.some.inj e;have h9:wr.heap.size<=b:=hb;omega)⟩) _ _ PA6.out;have LB:=RowU.lit (T:=53) (k:=11) (w:=w7) rfl PA7;refine step_puts rfl (.tmp 56) (.tmp 59) 23 rfl iB _ 192 Tryz.underlying23 hiB hzB0 hzB1 hzB2 rfl (by decide) LB (fun b hb=>by rw [q17 (by simp)];exact hb.2) (.slice a7 me c7) (Rd.keep (w:=w7) (w':=w7.alloc _) (fun b hb hlt'=>⟨.inl ⟨by have h9:w6.heap.size<=b:=hb.1;omega,hlt'⟩,Below.heap_alloc _ _ _ hlt'⟩) _ _ hk7.inside) (fun rs ok' h=>one_bls KI rs ok' _ h) HL1.out HME.out (by omega) (by decide) rfl rfl ?_;intro a9 c9 rows9 w9 hrow9 hg9;have KIDS:Rd (wr.heap.size<=·) w9 (.sl 11 ([(paraB ⟨xl,id,tx,line,refs⟩).d]++KI.map Blk.d)) [.slice a9 (1+me) c9]:=hrow9.rd.weaken (fun b hb=>by rcases hb with hb | hb;exact hb.1;rw [q17 (by simp)] at hb;omega);have CB9:CB 90 pm [.slice (some ⟨g,off,none⟩) all.length ec,.int .i64 ((endP all (j+1) (q0n xl):Nat):Int)] w9:=q04 (q04 hcb7 (World.grownBy_alloc _ _ none) (by simp)) hg9 (fun e=>by have h9:pm=w7.heap.size:=Option.some.inj e;omega);have GR9:wr.grownBy w9 (some pm):=q2d (q05 (q05 (q05 G6.out (q0e (q02 BD.out) _)) hg7) (q0e (World.grownBy_alloc _ _ none) _)) hg9 (fun g9 e=>by have h9:w7.heap.size=g9:=Option.some.inj e;omega)))
      all_goals
       go_wp2_with fail
       go_meet
       exact ⟨_,_,rfl,KIDS,CB9,GR9⟩
     case rest=>
      obtain ⟨a9,c9,rfl,KIDS,CB9,GR9⟩:=hcut
      obtain ⟨w9,hw9⟩:∃ w9:World,w9=wc:=⟨_,rfl⟩
      subst hw9
      obtain ⟨w1,hz1,hrow⟩:=HROW.out.hop2 (by rw [HW0.out];exact hpm) GR9
      have U9:=hid hrow
      have hz9:=GR9.size
      have IT9:=hid (show Rd (fun b=>False\/wr.heap.size<=b) w9 (itemB ⟨xl,id,tx,line,refs⟩ KI).d [.int .i64 9,.int .i64 0,.string ⟨#[]⟩,.string ⟨#[]⟩,.string ⟨#[]⟩,.string ⟨#[]⟩,.string ⟨#[]⟩,.slice none 0 0,.slice none 0 0,.slice none 0 0,.slice a9 (1+me) c9] from
       Blk.mk_ 9 0 ⟨#[]⟩ ⟨#[]⟩ ⟨#[]⟩ ⟨#[]⟩ (a:=at0) ⟨⟨Rd.nil_mk _ _ _,Rd.nil_mk _ _ _⟩,Rd.nil_mk _ _ _,KIDS.weaken (fun b hb=>.inr hb)⟩)
      have HCB9:=hid CB9
      have HGR9:=hid GR9
      have HZ1:=hid hz1
      have HVP:Hid ((Value.slice av m cv).ownBlock≠some pm):=fun e=>by have:=(hrow.own.lt pm e).1;rw [hz1,HW0.out] at this;omega
      have hround:=items_round all j (q0n lv) (up_lv lv) ⟨xl,id,tx,line,refs⟩ HX.out HPX.out
      have HRD:=hid hround
      have MR:Hid (wr.cell? ⟨pm,1,none⟩=some (.int .i64 ((j:Nat):Int))):=HCB.out.cell 1 _ rfl
      clear hrow KIDS CB9 GR9 hz1 hround k0 k1 k2 k3 k4 k5 k6 k7 k8 k9 k10 ILC BD BL LITA
      go_wp2_with (at_builtin;refine q0p rfl (.tmp 61) (.tmp 64) 23 rfl iB _ 192 Tryz.underlying23 hiB hzB0 hzB1 hzB2 rfl (by decide) U9.out (fun _=>False.elim) (itemB ⟨xl,id,tx,line,refs⟩ KI).d [.int .i64 9,.int .i64 0,.string ⟨#[]⟩,.string ⟨#[]⟩,.string ⟨#[]⟩,.string ⟨#[]⟩,.string ⟨#[]⟩,.slice none 0 0,.slice none 0 0,.slice none 0 0,.slice a9 (1+me) c9] IT9.out rfl one_elev HDN.out (by omega) (by decide) rfl rfl ?_)
      intro a10 c10 w10 hrow10 hg10
      have CB10:CB 90 pm [.slice (some ⟨g,off,none⟩) all.length ec,.int .i64 ((endP all (j+1) (q0n xl):Nat):Int)] w10:=q04 (q04 HCB9.out (World.grownBy_alloc _ _ none) (by simp)) hg10 (fun e=>HVP.out e.symm)
      have M10:Hid (w10.cell? ⟨pm,1,none⟩=some (.int .i64 ((endP all (j+1) (q0n xl):Nat):Int))):=CB10.cell 1 _ rfl
      have hge:=endP_ge all (j+1) (q0n xl)
      have hle:=endP_le all (j+1) (q0n xl) (by omega)
      have hilj:=HIL.out
      have REL:Hid (LtRel 90 pm (some ⟨g,off,none⟩) ec all k (q0n lv) w (.slice a10 (m+1) c10) w10):=by
       refine ⟨endP all (j+1) (q0n xl),items++[itemB ⟨xl,id,tx,line,refs⟩ KI],_,by omega,hle,by rw [List.length_append,List.length_singleton];omega,⟨w1,HZ1.out.trans HW0.out,by rw [List.map_append,<- HDS.out];exact hrow10⟩,CB10,
        q2d (q05 (q05 HGR.out HGR9.out) (q0e (World.grownBy_alloc _ _ none) _)) hg10 (fun g9 e=>by have h9:=(U9.out.own.lt g9 e).1;rw [HZ1.out,HW0.out] at h9;exact h9),?_,HRD.out.2.trans HEN.out⟩
       rw [List.append_assoc,<- HIT.out,HRD.out.1,HKI.out];rfl
      clear hrow10 hg10 CB10
      go_wp2
      go_roundw
      case rel=>exact REL.out
      case measure=>
       rw [M10.out,MR.out]
       simp only [intOf,Int.toNat_natCast]
       omega
    | false=>
     have HPX:=hid hpx
     have q1:decide (lv<xl)=false:=hpx
     clear hpx
     go_wp2_with fail
     go_quiet ((go_at_call 88;refine Calls.quiet_of_same (over_any lv xl pe _ HPR.out)))
     clear q0 q1
     obtain ⟨wq,hwq⟩:∃ wq,wq=wr.drewN nq:=⟨_,rfl⟩
     have gq:wr.grownBy wq none:=by rw [hwq];exact ⟨rfl,rfl,rfl,Nat.le_refl _,fun _ _ _=>rfl⟩
     rw [<- hwq]
     clear hwq c0 c1 d0 d1 d2 d3 d4
     obtain ⟨hi0,hj0'⟩:=items_stop all j (q0n lv) ⟨xl,id,tx,line,refs⟩ HX.out HPX.out
     have HI:Hid (itemsP all k (q0n lv)=items):=by show _=_;rw [<- HIT.out,hi0,List.append_nil]
     have HJ:Hid (endP all k (q0n lv)=j):=by show _=_;rw [<- HEN.out,hj0']
     have Uq:=hid (HROW.out.grown gq)
     have Cq:=hid (q04 HCB.out gq (by simp))
     have Gq:=hid (q05 HGR.out (q0e gq _))
     have hzq:w.heap.size<=wq.heap.size:=Gq.out.size
     clear hi0 hj0' gq
     by_cases hm0:m=0
     ·have q5:((m:Int)==0)=true:=by rw [beq_iff_eq];omega
      have HN:Hid (items=[]):=List.eq_nil_of_length_eq_zero (by rw [<- HMI.out];exact hm0)
      clear hm0
      go_wp2
      go_ret
      refine ⟨.slice none 0 0,rfl,?_,?_,Gq.out⟩
      ·rw [HI.out,HN.out];exact Rd.nil_mk _ _ _
      ·rw [HJ.out];exact Cq.out
     ·have q5:((m:Int)==0)=false:=by rw [beq_eq_false_iff_ne];omega
      have HN:Hid (items.isEmpty=false):=by
       show _=_
       rw [List.isEmpty_eq_false_iff]
       intro e
       rw [HMI.out,e] at hm0
       exact hm0 rfl
      clear hm0
      go_wp2
      go_ret
      have hv1:Rd (w.heap.size<=·) wq (Blk.mk 7 0 ⟨#[]⟩ ⟨#[]⟩ ⟨#[]⟩ ⟨#[]⟩ at0 [] items).d [.int .i64 7,.int .i64 0,.string ⟨#[]⟩,.string ⟨#[]⟩,.string ⟨#[]⟩,.string ⟨#[]⟩,.string ⟨#[]⟩,.slice none 0 0,.slice none 0 0,.slice none 0 0,.slice av m cv]:=
       Blk.mk_ 7 0 ⟨#[]⟩ ⟨#[]⟩ ⟨#[]⟩ ⟨#[]⟩ (a:=at0) ⟨⟨Rd.nil_mk _ _ _,Rd.nil_mk _ _ _⟩,Rd.nil_mk _ _ _,by
        have h9:=Uq.out.rd0
        rw [HDS.out,HW0.out] at h9
        exact h9⟩
      have hv2:=lit_rd (T:=53) (k:=11) rfl hv1 hzq
      refine ⟨.slice (some ⟨wq.heap.size,0,none⟩) 1 1,rfl,?_,?_,q05 Gq.out (q0e (World.grownBy_alloc _ _ none) _)⟩
      ·rw [HI.out]
       unfold bulB
       rw [HN.out]
       exact hv2
      ·rw [HJ.out];exact q04 Cq.out (World.grownBy_alloc _ _ none) (by simp)
   ·have hjl:j=all.length:=by omega
    have q0:decide ((j:Int)<(all.length:Int))=false:=decide_eq_false (by omega)
    go_wp2_with fail
    go_quiet (fail)
    clear q0
    obtain ⟨wq,hwq⟩:∃ wq,wq=wr.drewN nq:=⟨_,rfl⟩
    have gq:wr.grownBy wq none:=by rw [hwq];exact ⟨rfl,rfl,rfl,Nat.le_refl _,fun _ _ _=>rfl⟩
    rw [<- hwq]
    clear hwq c0 c1
    obtain ⟨hi0,hj0'⟩:=items_out all j (q0n lv) (by omega)
    have HI:Hid (itemsP all k (q0n lv)=items):=by show _=_;rw [<- HIT.out,hi0,List.append_nil]
    have HJ:Hid (endP all k (q0n lv)=j):=by show _=_;rw [<- HEN.out,hj0']
    have Uq:=hid (HROW.out.grown gq)
    have Cq:=hid (q04 HCB.out gq (by simp))
    have Gq:=hid (q05 HGR.out (q0e gq _))
    have hzq:w.heap.size<=wq.heap.size:=Gq.out.size
    clear hi0 hj0' gq
    by_cases hm0:m=0
    ·have q5:((m:Int)==0)=true:=by rw [beq_iff_eq];omega
     have HN:Hid (items=[]):=List.eq_nil_of_length_eq_zero (by rw [<- HMI.out];exact hm0)
     clear hm0
     go_wp2
     go_ret
     refine ⟨.slice none 0 0,rfl,?_,?_,Gq.out⟩
     ·rw [HI.out,HN.out];exact Rd.nil_mk _ _ _
     ·rw [HJ.out];exact Cq.out
    ·have q5:((m:Int)==0)=false:=by rw [beq_eq_false_iff_ne];omega
     have HN:Hid (items.isEmpty=false):=by
      show _=_
      rw [List.isEmpty_eq_false_iff]
      intro e
      rw [HMI.out,e] at hm0
      exact hm0 rfl
     clear hm0
     go_wp2
     go_ret
     have hv1:Rd (w.heap.size<=·) wq (Blk.mk 7 0 ⟨#[]⟩ ⟨#[]⟩ ⟨#[]⟩ ⟨#[]⟩ at0 [] items).d [.int .i64 7,.int .i64 0,.string ⟨#[]⟩,.string ⟨#[]⟩,.string ⟨#[]⟩,.string ⟨#[]⟩,.string ⟨#[]⟩,.slice none 0 0,.slice none 0 0,.slice none 0 0,.slice av m cv]:=
      Blk.mk_ 7 0 ⟨#[]⟩ ⟨#[]⟩ ⟨#[]⟩ ⟨#[]⟩ (a:=at0) ⟨⟨Rd.nil_mk _ _ _,Rd.nil_mk _ _ _⟩,Rd.nil_mk _ _ _,by
       have h9:=Uq.out.rd0
       rw [HDS.out,HW0.out] at h9
       exact h9⟩
     have hv2:=lit_rd (T:=53) (k:=11) rfl hv1 hzq
     refine ⟨.slice (some ⟨wq.heap.size,0,none⟩) 1 1,rfl,?_,?_,q05 Gq.out (q0e (World.grownBy_alloc _ _ none) _)⟩
     ·rw [HI.out]
      unfold bulB
      rw [HN.out]
      exact hv2
     ·rw [HJ.out];exact q04 Cq.out (World.grownBy_alloc _ _ none) (by simp)
theorem listA_any (all:List En) (k pm B:Nat) (ea:Option Addr) (ec:Nat) (w:World) (hk:k<=all.length) (hok:EnsOk all) (hsl:SlAt (·<B) w 5 (all.map En.d) ea ec) (hBp:B<=pm) (hcb:CB 90 pm [.slice ea all.length ec,.int .i64 ((k:Nat):Int)] w) :
  Calls Tryz.prog 56 #[.pointer (some ⟨pm,0,none⟩),.func (.func 57) #[] #[]] w (LtPost 90 pm ea ec all k (fun _=>true) w):=by
  obtain ⟨iB,hiB,hzB0,hzB1,hzB2⟩:=info_parts infoBl
  have hpm:=hcb.lt
  have hcap:all.length<=ec:=by simpa using hsl.le
  have hmx:=hsl.max
  unfold maxLen at hmx
  have hlen:=hok.len
  have HSL:=hid hsl
  have HOK:=hid hok
  have IL:Hid (∀ (j q:Nat) (lv':Int) (wz:World),k<=j->j<all.length->SlAt (·<B) wz 5 (all.map En.d) ea ec->CB 90 pm [.slice ea all.length ec,.int .i64 ((j+1:Nat):Int)] wz->wz.cell? ⟨q,0,none⟩=some (.int .i64 lv')->q≠pm ->
    Calls Tryz.prog 56 #[.pointer (some ⟨pm,0,none⟩),.func (.func 88) #[] #[.pointer (some ⟨q,0,none⟩)]] wz (LtPost 90 pm ea ec all (j+1) (q0n lv') wz)):=
   fun j q lv' wz h1 h2 h3 h4 h5 h6=>listO_any (all.length-(j+1)) all (j+1) q pm B lv' ea ec wz (Nat.le_refl _) h2 HOK.out h3 hBp h4 h5 h6
  have R0:Hid (LtRel 90 pm ea ec all k (fun (_:En)=>true) w (.slice none 0 0) w):=⟨k,[],[],Nat.le_refl _,hk,Nat.zero_le _,⟨w,rfl,RowU.nil _ _ _ _⟩,hcb,World.grownBy.refl w _,List.nil_append _,rfl⟩
  clear hcb hsl hok
  go_enter Tryz.func56,Tryz.ntmps56
  go_wp2
  go_loopw [5] (fun v wr=>LtRel 90 pm ea ec all k (fun (_:En)=>true) w v wr) (fun _ wr=>all.length-(match wr.cell? ⟨pm,1,none⟩ with | some v=>(intOf v).toNat | none=>0))
  case atStart=>exact R0.out
  case round=>
   clear R0
   obtain ⟨j,items,rows,hkj,hjn,hil,⟨w0,hw0,hrow⟩,hcb,hgr,hit,hen⟩:=hrel
   obtain ⟨ds,hds⟩:∃ ds,ds=items.map Blk.d:=⟨_,rfl⟩
   rw [<- hds] at hrow
   obtain ⟨m,hm⟩:∃ m,m=ds.length:=⟨_,rfl⟩
   have hmi:m=items.length:=by rw [hm,hds,List.length_map]
   have HMI:=hid hmi
   have hmj:m<=100000:=by omega
   have HDN:=hid hm.symm
   have HDS:=hid hds
   obtain ⟨av,cv,rfl,-,-⟩:=hrow.cap hm.symm
   have HROW:=hid hrow
   have HCB:=hid hcb
   have HGR:=hid hgr
   have HIT:=hid hit
   have HEN:=hid hen
   have HIL:=hid hil
   have hwz:=hgr.size
   have bB:Below B w wr:=⟨hgr.os,hgr.tape,hgr.output,hgr.size,fun b hb=>hgr.block b (by omega) (fun e=>by have:=Option.some.inj e;omega)⟩
   have HSLR:=hid (HSL.out.below bB)
   have c0:=hcb.cell 0 _ rfl
   have c1:=hcb.cell 1 _ rfl
   have hpr:True:=trivial
   have HPR:=hid hpr
   have HW0:=hid hw0
   clear hrow hm hds hcb hgr hit hen bB hpr hil hmi hw0
   by_cases hlt:j<all.length
   ·obtain ⟨x,hx⟩:∃ x,all[j]?=some x:=⟨_,List.getElem?_eq_getElem hlt⟩
    have HSH:=hid (HOK.out.sh x (List.mem_of_getElem? hx))
    obtain ⟨g,off,vl,vr,rfl,hgo,hgl,d0,d1,d2,d3,d4,hER⟩:=ens_at HSLR.out hx
    obtain ⟨al,nl,cl,rfl⟩:=Rd.sl_form hER.line
    obtain ⟨ar,nr,cr,rfl⟩:=Rd.sl_form hER.refs
    have HER:=hid hER
    have HX:=hid hx
    obtain ⟨xl,id,tx,line,refs⟩:=x
    dsimp only at d0 d1 d2 d3 d4
    have q0:decide ((j:Int)<(all.length:Int))=true:=decide_eq_true (by omega)
    have hj0:(0:Int)<=(j:Int):=by omega
    have hj1:(j:Int)<(all.length:Int):=by omega
    clear hER hx
    cases hpx:(fun (_:En)=>true) ⟨xl,id,tx,line,refs⟩ with
    | true=>
     have HPX:=hid hpx
     have q1:True:=trivial
     clear hpx
     go_wp2_with fail
     go_quiet ((go_at_call 57;refine Calls.quiet_of_same (allIn_any xl _)))
     clear q0 q1
     obtain ⟨wq,hwq⟩:∃ wq,wq=wr.drewN nq:=⟨_,rfl⟩
     have gq:wr.grownBy wq none:=by rw [hwq];exact ⟨rfl,rfl,rfl,Nat.le_refl _,fun _ _ _=>rfl⟩
     have hzq:wq.heap.size=wr.heap.size:=by rw [hwq];rfl
     rw [<- hwq]
     obtain ⟨c0,c1,d0,d1,d2,d3,d4⟩:wq.cell? ⟨pm,0,none⟩=some (.slice (some ⟨g,off,none⟩) all.length ec)/\wq.cell? ⟨pm,1,none⟩=some (.int .i64 ((j:Nat):Int))/\wq.cell? ⟨g,off+j*5,none⟩=some (.int .i64 xl)/\wq.cell? ⟨g,off+j*5+1,none⟩=some (.string id)/\wq.cell? ⟨g,off+j*5+2,none⟩=some (.string tx)/\wq.cell? ⟨g,off+j*5+3,none⟩=some (.slice al nl cl)/\wq.cell? ⟨g,off+j*5+4,none⟩=some (.slice ar nr cr):=by rw [hwq];exact ⟨c0,c1,d0,d1,d2,d3,d4⟩
     have HZQ:=hid hzq
     clear hwq hzq
     go_wp2_with fail
     have S0:wq.drew.cell? ⟨pm,0,none⟩=some (.slice (some ⟨g,off,none⟩) all.length ec)/\wq.drew.cell? ⟨pm,1,none⟩=some (.int .i64 ((j:Nat):Int))/\wq.drew.cell? ⟨g,off+j*5,none⟩=some (.int .i64 xl)/\wq.drew.cell? ⟨g,off+j*5+1,none⟩=some (.string id)/\wq.drew.cell? ⟨g,off+j*5+2,none⟩=some (.string tx)/\wq.drew.cell? ⟨g,off+j*5+3,none⟩=some (.slice al nl cl)/\wq.drew.cell? ⟨g,off+j*5+4,none⟩=some (.slice ar nr cr):=⟨c0,c1,d0,d1,d2,d3,d4⟩
     go_region_held3 (fun w'=>w'.cell? ⟨pm,0,none⟩=some (.slice (some ⟨g,off,none⟩) all.length ec)/\w'.cell? ⟨pm,1,none⟩=some (.int .i64 ((j:Nat):Int))/\w'.cell? ⟨g,off+j*5,none⟩=some (.int .i64 xl)/\w'.cell? ⟨g,off+j*5+1,none⟩=some (.string id)/\w'.cell? ⟨g,off+j*5+2,none⟩=some (.string tx)/\w'.cell? ⟨g,off+j*5+3,none⟩=some (.slice al nl cl)/\w'.cell? ⟨g,off+j*5+4,none⟩=some (.slice ar nr cr))
      (first | exact S0 | go_keep) (fail)
     obtain ⟨q,hq⟩:∃ q,q=wq.heap.size:=⟨_,rfl⟩
     obtain ⟨w3,hw3⟩:∃ w3,w3=(wq.alloc (.cells #[.int .i64 xl,.string id,.string tx,.slice al nl cl,.slice ar nr cr] 42)).drew:=⟨_,rfl⟩
     have g3:wr.grownBy w3 none:=q05 gq (by rw [hw3];exact q05 (World.grownBy_alloc wq _ none) ⟨rfl,rfl,rfl,Nat.le_refl _,fun _ _ _=>rfl⟩)
     have P3:CB 42 q [.int .i64 xl,.string id,.string tx,.slice al nl cl,.slice ar nr cr] w3:=by rw [hw3,hq];exact CB.new _ _ wq
     have C3:=q04 HCB.out g3 (by simp)
     rw [<- hw3,<- hq]
     have hqr:wr.heap.size<=q:=by rw [hq,HZQ.out];exact Nat.le_refl _
     have hqn:q≠pm:=by omega
     have c0:=C3.cell 0 _ rfl
     have c1:=C3.cell 1 _ rfl
     have f1:=q1c C3 1
     clear S0 d0 d1 d2 d3 d4 hw3 hq gq
     (try clear hHeld)
     go_upto_region 5 with (fail)
     obtain ⟨w4,hw4⟩:∃ w4,w4=w3.setCell ⟨pm,1,none⟩ (.int .i64 ((j:Int)+1)):=⟨_,rfl⟩
     rw [<- hw4]
     have g34:w3.grownBy w4 (some pm):=by rw [hw4];exact ⟨rfl,rfl,rfl,by simp [World.setCell],fun b hb hne'=>Below.heap_setCell w3 ⟨pm,1,none⟩ _ b (fun e=>hne' (by rw [e]))⟩
     have g4:wr.grownBy w4 (some pm):=q05 (q0e g3 _) g34
     have C4:CB 90 pm [.slice (some ⟨g,off,none⟩) all.length ec,.int .i64 ((j+1:Nat):Int)] w4:=by rw [hw4];exact cb_set C3 1 _
     have P4:=hid (q04 P3 g34 (fun e=>hqn (Option.some.inj e)))
     have hB4:Below B wr w4:=⟨g4.os,g4.tape,g4.output,g4.size,fun b hb=>g4.block b (by omega) (fun e=>by have:=Option.some.inj e;omega)⟩
     have SL4:=hid (HSLR.out.below hB4)
     have ER4:EnR (·<B) w4 line refs (.slice al nl cl) (.slice ar nr cr):=⟨HER.out.line.below hB4,HER.out.refs.below hB4⟩
     have hz4:=g4.size
     have SE:=hid (shEntry_any ⟨xl,id,tx,line,refs⟩ (.slice al nl cl) (.slice ar nr cr) B w4 ER4 (by omega) HSH.out)
     have C4H:=hid C4
     have G4:=hid g4
     obtain ⟨e0,e1,e2,e3,e4⟩:w4.cell? ⟨q,0,none⟩=some (.int .i64 xl)/\w4.cell? ⟨q,1,none⟩=some (.string id)/\w4.cell? ⟨q,2,none⟩=some (.string tx)/\w4.cell? ⟨q,3,none⟩=some (.slice al nl cl)/\w4.cell? ⟨q,4,none⟩=some (.slice ar nr cr):=⟨P4.out.cell 0 _ rfl,P4.out.cell 1 _ rfl,P4.out.cell 2 _ rfl,P4.out.cell 3 _ rfl,P4.out.cell 4 _ rfl⟩
     clear c0 c1 f1 C3 P3 g3 g34 g4 C4 hw4 hB4 ER4 HSLR
     go_wp2_with fail
     (with_reducible refine SE.out.mono ?_)
     rintro e w5 ⟨vk5,rfl,hk5,b5⟩
     obtain ⟨ak5,nk5,ck5,rfl⟩:=Rd.sl_form hk5
     have hz5:=b5.size
     obtain ⟨w6,hw6⟩:∃ w6,w6=(w5.alloc (.cells #[.int .i64 9,.string ⟨#[]⟩,.string (hashB++id),.string ⟨#[]⟩,.string ⟨#[]⟩,.slice none 0 0,.slice none 0 0,.slice none 0 0,.slice none 0 0,.slice ak5 nk5 ck5] 47)).alloc (.cells #[.int .i64 1,.int .i64 0,.string ⟨#[]⟩,.string ⟨#[]⟩,.string ⟨#[]⟩,.string ⟨#[]⟩,.string ⟨#[]⟩,.slice none 0 0,.slice none 0 0,.slice (some ⟨w5.heap.size,0,none⟩) 1 1,.slice none 0 0] 53):=⟨_,rfl⟩
     have b56:Below w5.heap.size w5 w6:=by rw [hw6];exact ((Below.refl _ _).alloc (Nat.le_refl _) _).alloc (by simp) _
     obtain ⟨q2,hq2⟩:∃ q2,q2=w5.heap.size+1:=⟨_,rfl⟩
     have K6:CB 53 q2 [.int .i64 1,.int .i64 0,.string ⟨#[]⟩,.string ⟨#[]⟩,.string ⟨#[]⟩,.string ⟨#[]⟩,.string ⟨#[]⟩,.slice none 0 0,.slice none 0 0,.slice (some ⟨w5.heap.size,0,none⟩) 1 1,.slice none 0 0] w6:=by
      have:=CB.new 53 [.int .i64 1,.int .i64 0,.string ⟨#[]⟩,.string ⟨#[]⟩,.string ⟨#[]⟩,.string ⟨#[]⟩,.string ⟨#[]⟩,.slice none 0 0,.slice none 0 0,.slice (some ⟨w5.heap.size,0,none⟩) 1 1,.slice none 0 0] (w5.alloc (.cells #[.int .i64 9,.string ⟨#[]⟩,.string (hashB++id),.string ⟨#[]⟩,.string ⟨#[]⟩,.slice none 0 0,.slice none 0 0,.slice none 0 0,.slice none 0 0,.slice ak5 nk5 ck5] 47))
      rw [World.size_alloc] at this
      rw [hw6,hq2];exact this
     have hLN:Rd (wr.heap.size<=·) w6 (q0w [q21 ⟨xl,id,tx,line,refs⟩]) [.slice (some ⟨w5.heap.size,0,none⟩) 1 1]:=by
      have h1:Rd (wr.heap.size<=·) w5 (q21 ⟨xl,id,tx,line,refs⟩).d [.int .i64 9,.string ⟨#[]⟩,.string (hashB++id),.string ⟨#[]⟩,.string ⟨#[]⟩,.slice none 0 0,.slice none 0 0,.slice none 0 0,.slice none 0 0,.slice ak5 nk5 ck5]:=
       Inl.mk_ 9 ⟨#[]⟩ (hashB++id) ⟨#[]⟩ (a:=at0) ⟨⟨Rd.nil_mk _ _ _,Rd.nil_mk _ _ _⟩,Rd.nil_mk _ _ _,Rd.nil_mk _ _ _,hk5.weaken (fun b hb=>Nat.le_trans hz4 hb)⟩
      have h2:=lit_rd (T:=47) (k:=10) rfl h1 (by omega)
      rw [hw6]
      exact h2.up0 ((Below.refl _ _).alloc (Nat.le_refl _) _)
     have PA6:=hid (show Rd (wr.heap.size<=·) w6 (paraB ⟨xl,id,tx,line,refs⟩).d [.int .i64 1,.int .i64 0,.string ⟨#[]⟩,.string ⟨#[]⟩,.string ⟨#[]⟩,.string ⟨#[]⟩,.string ⟨#[]⟩,.slice none 0 0,.slice none 0 0,.slice (some ⟨w5.heap.size,0,none⟩) 1 1,.slice none 0 0] from
      Blk.mk_ 1 0 ⟨#[]⟩ ⟨#[]⟩ ⟨#[]⟩ ⟨#[]⟩ (a:=at0) ⟨⟨Rd.nil_mk _ _ _,Rd.nil_mk _ _ _⟩,hLN,Rd.nil_mk _ _ _⟩)
     have b46:Below w4.heap.size w4 w6:=q01 b5 b56
     have C6:=hid (C4H.out.below b46)
     have P6:=hid (P4.out.below b46)
     have SL6:=hid (SL4.out.below (b46.mono (by omega)))
     have G6:=hid (q05 G4.out (q0e (q02 b46) _))
     have K6H:=hid K6
     have hz6:=b46.size
     have hq26:q2<w6.heap.size:=K6.lt
     have hqq:wr.heap.size<=q2:=by omega
     clear SE hk5 b5 b56 b46 hLN K6 C4H P4 SL4 G4 e0 e1 e2 e3 e4
     go_upto_region 6 with (fail)
     rw [<- hw6,<- hq2]
     have HQ2:=hid hq2
     clear hw6 hq2
     obtain ⟨KI,hKI⟩:∃ KI,KI=bulB (itemsP all (j+1) (q0n xl)):=⟨_,rfl⟩
     obtain ⟨me,hme⟩:∃ me,me=(KI.map Blk.d).length:=⟨_,rfl⟩
     have hme1:me<=1:=by rw [hme,List.length_map,hKI];exact bul_len _
     have HME:=hid hme.symm
     have HKI:=hid hKI
     have ILC:Hid (∀ (wz:World),Below w6.heap.size w6 wz->Calls Tryz.prog 56 #[.pointer (some ⟨pm,0,none⟩),.func (.func 88) #[] #[.pointer (some ⟨q,0,none⟩)]] wz (LtPost 90 pm (some ⟨g,off,none⟩) ec all (j+1) (q0n xl) wz)):=
      fun wz h=>IL.out j q xl wz hkj hlt (SL6.out.below (h.mono (by omega))) (C6.out.below h) ((P6.out.below h).cell 0 _ rfl) hqn
     have BD:=hid (show Below w6.heap.size w6 w6.drew from ⟨rfl,rfl,rfl,Nat.le_refl _,fun _ _=>rfl⟩)
     have BL:=hid (show Below w6.heap.size w6 (w6.alloc (.cells #[.int .i64 1,.int .i64 0,.string ⟨#[]⟩,.string ⟨#[]⟩,.string ⟨#[]⟩,.string ⟨#[]⟩,.string ⟨#[]⟩,.slice none 0 0,.slice none 0 0,.slice (some ⟨w5.heap.size,0,none⟩) 1 1,.slice none 0 0] 53)).drew from ((Below.refl _ w6).alloc (Nat.le_refl _) _).drew)
     have LITA:=hid (RowU.lit (T:=53) (k:=11) (w:=w6.drew) (n1:=wr.heap.size) (d:=(paraB ⟨xl,id,tx,line,refs⟩).d) (r:=[.int .i64 1,.int .i64 0,.string ⟨#[]⟩,.string ⟨#[]⟩,.string ⟨#[]⟩,.string ⟨#[]⟩,.string ⟨#[]⟩,.slice none 0 0,.slice none 0 0,.slice (some ⟨w5.heap.size,0,none⟩) 1 1,.slice none 0 0]) rfl (Rd.keep (w:=w6) (w':=w6.drew) (fun b hb _=>⟨hb,rfl⟩) _ _ PA6.out))
     have HL1:Hid ([(paraB ⟨xl,id,tx,line,refs⟩).d].length=1):=rfl
     have hz66:w6.drew.heap.size=w6.heap.size:=rfl
     obtain ⟨k0,k1,k2,k3,k4,k5,k6,k7,k8,k9,k10⟩:=cb_elev K6H.out
     have HZ66:=hid hz66
     clear hKI hme hz66
     go_cut [8] (fun v8 wx=>∃ a9 c9,v8=.slice a9 (1+me) c9/\Rd (wr.heap.size<=·) wx (.sl 11 ([(paraB ⟨xl,id,tx,line,refs⟩).d]++KI.map Blk.d)) [.slice a9 (1+me) c9]/\CB 90 pm [.slice (some ⟨g,off,none⟩) all.length ec,.int .i64 ((endP all (j+1) (q0n xl):Nat):Int)] wx/\wr.grownBy wx (some pm))
     case first=>
      go_region_law (first
       | (go_simp;go_at_call 56;(with_reducible refine (ILC.out _ (by first | exact BD.out | exact BL.out)).mono ?_);rintro e w7 ⟨v7,rfl,hk7,hcb7,hg7⟩;rw [<- HKI.out] at hk7;obtain ⟨a7,c7,hv7,hs7⟩:=Rd.sl_open hk7;obtain rfl:v7=.slice a7 me c7:=(by rw [HME.out] at hv7;simpa using hv7);have K7:CB 53 q2 [.int .i64 1,.int .i64 0,.string ⟨#[]⟩,.string ⟨#[]⟩,.string ⟨#[]⟩,.string ⟨#[]⟩,.string ⟨#[]⟩,.slice none 0 0,.slice none 0 0,.slice (some ⟨w5.heap.size,0,none⟩) 1 1,.slice none 0 0] w7:=(hg7.block q2 (by simp;omega) (fun e=>by have:=Option.some.inj e;omega)).trans (by first | exact K6H.out | exact (Below.heap_alloc _ _ q2 hq26).trans K6H.out);obtain ⟨k0,k1,k2,k3,k4,k5,k6,k7,k8,k9,k10⟩:=cb_elev K7)
       | (have hg7a:World.grownBy (w6.drew.alloc (.cells #[.int .i64 1,.int .i64 0,.string ⟨#[]⟩,.string ⟨#[]⟩,.string ⟨#[]⟩,.string ⟨#[]⟩,.string ⟨#[]⟩,.slice none 0 0,.slice none 0 0,.slice (some ⟨w5.heap.size,0,none⟩) 1 1,.slice none 0 0] 53)) w7 (some pm):=hg7;obtain ⟨w0a,hz0a,UA⟩:=RowU.hopG LITA.out (by rw [q17 (by simp)];show pm<w6.heap.size;omega) (fun h=>by omega) hg7a;rw [q17 (by simp)] at hz0a;refine step_puts rfl (.tmp 56) (.tmp 59) 23 rfl iB _ 192 Tryz.underlying23 hiB hzB0 hzB1 hzB2 rfl (by decide) UA (fun b hb=>by rw [hz0a];exact hb.2) (.slice a7 me c7) (hk7.weaken (fun b hb=>.inr (by simpa using hb))) (fun rs ok' h=>one_bls KI rs ok' _ h) HL1.out HME.out (by omega) (by decide) rfl rfl ?_;intro a9 c9 rows9 w9 hrow9 hg9;have KIDS:Rd (wr.heap.size<=·) w9 (.sl 11 ([(paraB ⟨xl,id,tx,line,refs⟩).d]++KI.map Blk.d)) [.slice a9 (1+me) c9]:=hrow9.rd.weaken (fun b hb=>by rcases hb with hb | hb;exact hb.1;rw [hz0a] at hb;have h9:w6.heap.size<=b:=hb;omega);have CB9:CB 90 pm [.slice (some ⟨g,off,none⟩) all.length ec,.int .i64 ((endP all (j+1) (q0n xl):Nat):Int)] w9:=q04 hcb7 hg9 (fun e=>by have h9:pm=w6.heap.size:=Option.some.inj e;omega);have GR9:wr.grownBy w9 (some pm):=q2d (q05 (q05 G6.out (q0e (q02 BL.out) _)) hg7) hg9 (fun g9 e=>by have h9:w6.heap.size=g9:=Option.some.inj e;omega))
       | (have hg7b:World.grownBy w6.drew w7 (some pm):=hg7;have hz7:w6.heap.size<=w7.heap.size:=hg7b.size;have PA7:Rd (wr.heap.size<=·) w7 (paraB ⟨xl,id,tx,line,refs⟩).d [.int .i64 1,.int .i64 0,.string ⟨#[]⟩,.string ⟨#[]⟩,.string ⟨#[]⟩,.string ⟨#[]⟩,.string ⟨#[]⟩,.slice none 0 0,.slice none 0 0,.slice (some ⟨w5.heap.size,0,none⟩) 1 1,.slice none 0 0]:=Rd.keep (w:=w6) (w':=w7) (ok:=(wr.heap.size<=·)) (fun b hb hlt'=>⟨hb,hg7b.block b hlt' (fun e=>by have:=Option.some.inj e;have h9:wr.heap.size<=b:=hb;omega)⟩) _ _ PA6.out;have LB:=RowU.lit (T:=53) (k:=11) (w:=w7) rfl PA7;refine step_puts rfl (.tmp 56) (.tmp 59) 23 rfl iB _ 192 Tryz.underlying23 hiB hzB0 hzB1 hzB2 rfl (by decide) LB (fun b hb=>by rw [q17 (by simp)];exact hb.2) (.slice a7 me c7) (Rd.keep (w:=w7) (w':=w7.alloc _) (fun b hb hlt'=>⟨.inl ⟨by have h9:w6.heap.size<=b:=hb.1;omega,hlt'⟩,Below.heap_alloc _ _ _ hlt'⟩) _ _ hk7.inside) (fun rs ok' h=>one_bls KI rs ok' _ h) HL1.out HME.out (by omega) (by decide) rfl rfl ?_;intro a9 c9 rows9 w9 hrow9 hg9;have KIDS:Rd (wr.heap.size<=·) w9 (.sl 11 ([(paraB ⟨xl,id,tx,line,refs⟩).d]++KI.map Blk.d)) [.slice a9 (1+me) c9]:=hrow9.rd.weaken (fun b hb=>by rcases hb with hb | hb;exact hb.1;rw [q17 (by simp)] at hb;omega);have CB9:CB 90 pm [.slice (some ⟨g,off,none⟩) all.length ec,.int .i64 ((endP all (j+1) (q0n xl):Nat):Int)] w9:=q04 (q04 hcb7 (World.grownBy_alloc _ _ none) (by simp)) hg9 (fun e=>by have h9:pm=w7.heap.size:=Option.some.inj e;omega);have GR9:wr.grownBy w9 (some pm):=q2d (q05 (q05 (q05 G6.out (q0e (q02 BD.out) _)) hg7) (q0e (World.grownBy_alloc _ _ none) _)) hg9 (fun g9 e=>by have h9:w7.heap.size=g9:=Option.some.inj e;omega)))
      all_goals
       go_wp2_with fail
       go_meet
       exact ⟨_,_,rfl,KIDS,CB9,GR9⟩
     case rest=>
      obtain ⟨a9,c9,rfl,KIDS,CB9,GR9⟩:=hcut
      obtain ⟨w9,hw9⟩:∃ w9:World,w9=wc:=⟨_,rfl⟩
      subst hw9
      obtain ⟨w1,hz1,hrow⟩:=HROW.out.hop2 (by rw [HW0.out];exact hpm) GR9
      have U9:=hid hrow
      have hz9:=GR9.size
      have IT9:=hid (show Rd (fun b=>False\/wr.heap.size<=b) w9 (itemB ⟨xl,id,tx,line,refs⟩ KI).d [.int .i64 9,.int .i64 0,.string ⟨#[]⟩,.string ⟨#[]⟩,.string ⟨#[]⟩,.string ⟨#[]⟩,.string ⟨#[]⟩,.slice none 0 0,.slice none 0 0,.slice none 0 0,.slice a9 (1+me) c9] from
       Blk.mk_ 9 0 ⟨#[]⟩ ⟨#[]⟩ ⟨#[]⟩ ⟨#[]⟩ (a:=at0) ⟨⟨Rd.nil_mk _ _ _,Rd.nil_mk _ _ _⟩,Rd.nil_mk _ _ _,KIDS.weaken (fun b hb=>.inr hb)⟩)
      have HCB9:=hid CB9
      have HGR9:=hid GR9
      have HZ1:=hid hz1
      have HVP:Hid ((Value.slice av m cv).ownBlock≠some pm):=fun e=>by have:=(hrow.own.lt pm e).1;rw [hz1,HW0.out] at this;omega
      have hround:=items_round all j (fun (_:En)=>true) up_true ⟨xl,id,tx,line,refs⟩ HX.out rfl
      have HRD:=hid hround
      have MR:Hid (wr.cell? ⟨pm,1,none⟩=some (.int .i64 ((j:Nat):Int))):=HCB.out.cell 1 _ rfl
      clear hrow KIDS CB9 GR9 hz1 hround k0 k1 k2 k3 k4 k5 k6 k7 k8 k9 k10 ILC BD BL LITA
      go_wp2_with (at_builtin;refine q0p rfl (.tmp 61) (.tmp 64) 23 rfl iB _ 192 Tryz.underlying23 hiB hzB0 hzB1 hzB2 rfl (by decide) U9.out (fun _=>False.elim) (itemB ⟨xl,id,tx,line,refs⟩ KI).d [.int .i64 9,.int .i64 0,.string ⟨#[]⟩,.string ⟨#[]⟩,.string ⟨#[]⟩,.string ⟨#[]⟩,.string ⟨#[]⟩,.slice none 0 0,.slice none 0 0,.slice none 0 0,.slice a9 (1+me) c9] IT9.out rfl one_elev HDN.out (by omega) (by decide) rfl rfl ?_)
      intro a10 c10 w10 hrow10 hg10
      have CB10:CB 90 pm [.slice (some ⟨g,off,none⟩) all.length ec,.int .i64 ((endP all (j+1) (q0n xl):Nat):Int)] w10:=q04 (q04 HCB9.out (World.grownBy_alloc _ _ none) (by simp)) hg10 (fun e=>HVP.out e.symm)
      have M10:Hid (w10.cell? ⟨pm,1,none⟩=some (.int .i64 ((endP all (j+1) (q0n xl):Nat):Int))):=CB10.cell 1 _ rfl
      have hge:=endP_ge all (j+1) (q0n xl)
      have hle:=endP_le all (j+1) (q0n xl) (by omega)
      have hilj:=HIL.out
      have REL:Hid (LtRel 90 pm (some ⟨g,off,none⟩) ec all k (fun (_:En)=>true) w (.slice a10 (m+1) c10) w10):=by
       refine ⟨endP all (j+1) (q0n xl),items++[itemB ⟨xl,id,tx,line,refs⟩ KI],_,by omega,hle,by rw [List.length_append,List.length_singleton];omega,⟨w1,HZ1.out.trans HW0.out,by rw [List.map_append,<- HDS.out];exact hrow10⟩,CB10,
        q2d (q05 (q05 HGR.out HGR9.out) (q0e (World.grownBy_alloc _ _ none) _)) hg10 (fun g9 e=>by have h9:=(U9.out.own.lt g9 e).1;rw [HZ1.out,HW0.out] at h9;exact h9),?_,HRD.out.2.trans HEN.out⟩
       rw [List.append_assoc,<- HIT.out,HRD.out.1,HKI.out];rfl
      clear hrow10 hg10 CB10
      go_wp2
      go_roundw
      case rel=>exact REL.out
      case measure=>
       rw [M10.out,MR.out]
       simp only [intOf,Int.toNat_natCast]
       omega
    | false=>exact absurd hpx (by simp)
   ·have hjl:j=all.length:=by omega
    have q0:decide ((j:Int)<(all.length:Int))=false:=decide_eq_false (by omega)
    go_wp2_with fail
    go_quiet (fail)
    clear q0
    obtain ⟨wq,hwq⟩:∃ wq,wq=wr.drewN nq:=⟨_,rfl⟩
    have gq:wr.grownBy wq none:=by rw [hwq];exact ⟨rfl,rfl,rfl,Nat.le_refl _,fun _ _ _=>rfl⟩
    rw [<- hwq]
    clear hwq c0 c1
    obtain ⟨hi0,hj0'⟩:=items_out all j (fun (_:En)=>true) (by omega)
    have HI:Hid (itemsP all k (fun (_:En)=>true)=items):=by show _=_;rw [<- HIT.out,hi0,List.append_nil]
    have HJ:Hid (endP all k (fun (_:En)=>true)=j):=by show _=_;rw [<- HEN.out,hj0']
    have Uq:=hid (HROW.out.grown gq)
    have Cq:=hid (q04 HCB.out gq (by simp))
    have Gq:=hid (q05 HGR.out (q0e gq _))
    have hzq:w.heap.size<=wq.heap.size:=Gq.out.size
    clear hi0 hj0' gq
    by_cases hm0:m=0
    ·have q5:((m:Int)==0)=true:=by rw [beq_iff_eq];omega
     have HN:Hid (items=[]):=List.eq_nil_of_length_eq_zero (by rw [<- HMI.out];exact hm0)
     clear hm0
     go_wp2
     go_ret
     refine ⟨.slice none 0 0,rfl,?_,?_,Gq.out⟩
     ·rw [HI.out,HN.out];exact Rd.nil_mk _ _ _
     ·rw [HJ.out];exact Cq.out
    ·have q5:((m:Int)==0)=false:=by rw [beq_eq_false_iff_ne];omega
     have HN:Hid (items.isEmpty=false):=by
      show _=_
      rw [List.isEmpty_eq_false_iff]
      intro e
      rw [HMI.out,e] at hm0
      exact hm0 rfl
     clear hm0
     go_wp2
     go_ret
     have hv1:Rd (w.heap.size<=·) wq (Blk.mk 7 0 ⟨#[]⟩ ⟨#[]⟩ ⟨#[]⟩ ⟨#[]⟩ at0 [] items).d [.int .i64 7,.int .i64 0,.string ⟨#[]⟩,.string ⟨#[]⟩,.string ⟨#[]⟩,.string ⟨#[]⟩,.string ⟨#[]⟩,.slice none 0 0,.slice none 0 0,.slice none 0 0,.slice av m cv]:=
      Blk.mk_ 7 0 ⟨#[]⟩ ⟨#[]⟩ ⟨#[]⟩ ⟨#[]⟩ (a:=at0) ⟨⟨Rd.nil_mk _ _ _,Rd.nil_mk _ _ _⟩,Rd.nil_mk _ _ _,by
       have h9:=Uq.out.rd0
       rw [HDS.out,HW0.out] at h9
       exact h9⟩
     have hv2:=lit_rd (T:=53) (k:=11) rfl hv1 hzq
     refine ⟨.slice (some ⟨wq.heap.size,0,none⟩) 1 1,rfl,?_,?_,q05 Gq.out (q0e (World.grownBy_alloc _ _ none) _)⟩
     ·rw [HI.out]
      unfold bulB
      rw [HN.out]
      exact hv2
     ·rw [HJ.out];exact q04 Cq.out (World.grownBy_alloc _ _ none) (by simp)
theorem itemsP_all (l:List En):itemsP l 0 (fun _=>true)=q1r l:=by
 unfold itemsP
 rw [List.drop_zero]
 congr 1
 induction l with
 | nil=>rfl
 | cons x l ih=>rw [List.takeWhile_cons,if_pos rfl,ih]
def ListPost (w:World) (l:List Blk) (e:Ending) (w':World):Prop:=∃ v,e=.returned v/\Rd (w.heap.size<=·) w' (q0x l) [v]/\Below w.heap.size w w'
theorem tocList_any (all:List En) (v:Value) (w:World) (h:Rd (·<w.heap.size) w (ensD all) [v]) (hok:EnsOk all) :
  Calls Tryz.prog 23 #[v] w (ListPost w (q1v all)):=by
 obtain ⟨a,cap,hv,hs⟩:=Rd.sl_open h
 obtain rfl:v=.slice a all.length cap:=by simpa using hv
 obtain ⟨S,hS⟩:∃ S,S=w.heap.size:=⟨_,rfl⟩
 obtain ⟨w1,hw1⟩:∃ w1,w1=w.alloc (.cells #[.slice a all.length cap,.int .i64 0] 90):=⟨_,rfl⟩
 have k1:CB 90 S [.slice a all.length cap,.int .i64 ((0:Nat):Int)] w1:=by rw [hw1,hS];exact CB.new _ _ _
 have b1:Below w.heap.size w w1:=by rw [hw1];exact (Below.refl _ _).alloc (Nat.le_refl _) _
 have z1:w1.heap.size=S+1:=by rw [hw1,hS];simp
 have LA:Hid (Calls Tryz.prog 56 #[.pointer (some ⟨S,0,none⟩),.func (.func 57) #[] #[]] w1 (LtPost 90 S a cap all 0 (fun _=>true) w1)):=
  listA_any all 0 S S a cap w1 (Nat.zero_le _) hok (by rw [hS];exact hs.below b1) (Nat.le_refl _) k1
 have B1:=hid b1
 have Z1:=hid z1
 have HS:=hid hS
 have HW1:=hid hw1
 clear h hv hs hok hS k1 b1 z1 hw1
 go_enter Tryz.func23,Tryz.ntmps23
 go_upto_region 2 with (fail)
 rw [<- HS.out,<- HW1.out]
 go_wp2_with fail
 (with_reducible refine LA.out.mono ?_)
 rintro e w2 ⟨v2,rfl,h2,-,g2⟩
 rw [itemsP_all] at h2
 have H2:Hid (ListPost w (q1v all) (.returned v2) w2):=by
  refine ⟨v2,rfl,h2.weaken (fun b hb=>?_),?_⟩
  ·have h9:w1.heap.size<=b:=hb
   rw [Z1.out,HS.out] at h9;omega
  ·exact B1.out.grown g2 (by rw [Z1.out,HS.out];omega) (fun b hb=>by have:=Option.some.inj hb;rw [<- this,HS.out];exact Nat.le_refl _)
 clear h2 g2 LA
 go_wp2
 go_ret
 exact H2.out
open Go.RowKit
end Go.Proofs.YtlbioncagkkkoaaGreatDoor

