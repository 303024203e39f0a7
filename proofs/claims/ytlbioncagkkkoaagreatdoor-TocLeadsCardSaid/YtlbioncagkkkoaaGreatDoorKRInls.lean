/- publisherref04.Deep, List: inlines and blocks with those in them, in document order. publisherref04.List: blocks with those in them, in document order. The contract of publisherref04.Inlines: all inlines of blocks. -/
import Derived.Test.YtlbioncagkkkoaaGreatDoorKWeight
import Derived.Test.YtlbioncagkkkoaaGreatDoorKInlsW
import Derived.Test.YtlbioncagkkkoaaGreatDoorKEach
import Derived.Test.YtlbioncagkkkoaaGreatDoorKInlines
import Derived.Test.YtlbioncagkkkoaaGreatDoorKPaE
set_option maxHeartbeats 4000000
set_option maxRecDepth 100000
open Go.Lib (hid)
namespace Go.Proofs.YtlbioncagkkkoaaGreatDoor
open Go.RowKit
set_option linter.unusedVariables false
set_option linter.unusedSimpArgs false
theorem infoIn2:(Tryz.prog.info? 47).map (fun i=>(i.zero,i.size,i.bytes))=some (some (.agg #[.int .i64 0,.string ByteArray.empty,.string ByteArray.empty,.string ByteArray.empty,.string ByteArray.empty,.slice none 0 0,.slice none 0 0,.slice none 0 0,.slice none 0 0,.slice none 0 0]),10,192):=by kernel_rfl
theorem infoBl2:(Tryz.prog.info? 53).map (fun i=>(i.zero,i.size,i.bytes))=some (some (.agg #[.int .i64 0,.int .i64 0,.string ByteArray.empty,.string ByteArray.empty,.string ByteArray.empty,.string ByteArray.empty,.string ByteArray.empty,.slice none 0 0,.slice none 0 0,.slice none 0 0,.slice none 0 0]),11,192):=by kernel_rfl
mutual
theorem Rd.cells1 {ok:Nat->Prop} {w:World}:∀ (d:D) (cs:List Value),Rd ok w d cs->∀ u∈cs,u.oneCell'=true
 | .int _ _,_,h,u,hu=>by rw [h.int_open] at hu;simp at hu;subst hu;rfl
 | .bool _,_,h,u,hu=>by rw [h.bool_open] at hu;simp at hu;subst hu;rfl
 | .str _,_,h,u,hu=>by rw [h.str_open] at hu;simp at hu;subst hu;rfl
 | .st fs,_,h,u,hu=>by
  obtain ⟨rows,hr,rfl⟩:=h.st_open
  exact RdL.cells1 fs rows hr u hu
 | .sl k l,_,h,u,hu=>by
  obtain ⟨a,cap,rfl,_⟩:=h.sl_open
  simp at hu;subst hu;rfl
theorem RdL.cells1 {ok:Nat->Prop} {w:World}:∀ (l:List D) (rows:List (List Value)),RdL ok w l rows->∀ u∈rows.flatten,u.oneCell'=true
 | [],_,h,u,hu=>by rw [h.nil_open] at hu;simp at hu
 | d::ds,_,h,u,hu=>by
  obtain ⟨r,rs,rfl,h1,h2⟩:=h.cons_open
  rw [List.flatten_cons] at hu
  rcases List.mem_append.1 hu with hu | hu
  ·exact Rd.cells1 d r h1 u hu
  ·exact RdL.cells1 ds rs h2 u hu
end
structure Row (T:TypeId) (k B:Nat) (w0:World) (ds:List D) (rows:List (List Value)) (v:Value) (w:World):Prop where
 own:w.ownsRow w0.heap.size T k v ds.length rows.flatten
 red:RdL (·<B) w ds rows
 len:∀ r∈rows,r.length=k
 bel:Below w0.heap.size w0 w
section
variable {T:TypeId} {k B:Nat} {w0 w w1 w2:World} {ds es:List D} {rows rows2:List (List Value)} {v v':Value}
theorem Row.nil (T:TypeId) (k B:Nat) (w0:World):Row T k B w0 [] [] (.slice none 0 0) w0:=⟨⟨by simp,.inl ⟨rfl,rfl⟩⟩,RdL.none,by simp,Below.refl _ _⟩
theorem Row.up (h:Row T k B w0 ds rows v w) (hB:B<=w.heap.size) (hb:Below w.heap.size w w1):Row T k B w0 ds rows v w1:=
 ⟨q27 h.own hb,RdL.keep (fun b h1 h2=>⟨h1,hb.block b h2⟩) _ _ h.red,h.len,q01 h.bel hb⟩
theorem Row.app (h:Row T k B w0 ds rows v w1) (hB:B<=w0.heap.size) (hes:RdL (·<B) w1 es rows2) (hl2:∀ r∈rows2,r.length=k)
  (hown:w2.ownsRow w0.heap.size T k v' (ds.length+es.length) (rows.flatten++rows2.flatten)) (hg:w1.grownBy w2 v.ownBlock):Row T k B w0 (ds++es) (rows++rows2) v' w2:=by
 have hne:∀ b,b<w0.heap.size->some b≠v.ownBlock:=fun b hb e=>by have:=(h.own.lt b e.symm).1;omega
 have hst:Stays (·<B) (·<B) w1 w2:=fun b h1 h2=>⟨h1,hg.block b h2 (hne b (by omega))⟩
 refine ⟨by rw [List.length_append,List.flatten_append];exact hown,RdL.app (RdL.keep hst _ _ h.red) (RdL.keep hst _ _ hes),?_,?_⟩
 ·intro r hr
  rcases List.mem_append.1 hr with hr | hr
  ·exact h.len r hr
  ·exact hl2 r hr
 ·have hb:=h.bel
  exact ⟨hg.os.trans hb.os,hg.tape.trans hb.tape,hg.output.trans hb.output,Nat.le_trans hb.size hg.size,fun b hlt=>(hg.block b (Nat.lt_of_lt_of_le hlt hb.size) (hne b hlt)).trans (hb.block b hlt)⟩
end
mutual
theorem Inl.deep_sz:∀ (x:Inl),x.deep.length=x.sz
 | .mk _ _ _ _ _ _ _ ks=>by rw [Inl.deep,Inl.sz,List.length_cons,Inl.deepL_sz ks];omega
theorem Inl.deepL_sz:∀ (l:List Inl),(Inl.deepL l).length=Inl.szL l
 | []=>by rw [Inl.deepL,Inl.szL];rfl
 | x::l=>by rw [Inl.deepL,Inl.szL,List.length_append,Inl.deep_sz x,Inl.deepL_sz l]
end
mutual
theorem Blk.each_sz:∀ (x:Blk),x.each.length=x.sz
 | .mk _ _ _ _ _ _ _ _ ks=>by rw [Blk.each,Blk.sz,List.length_cons,Blk.eachL_sz ks];omega
theorem Blk.eachL_sz:∀ (l:List Blk),(Blk.eachL l).length=Blk.szL l
 | []=>by rw [Blk.eachL,Blk.szL];rfl
 | x::l=>by rw [Blk.eachL,Blk.szL,List.length_append,Blk.each_sz x,Blk.eachL_sz l]
end
theorem Inl.deepL_snoc {l:List Inl} {k:Nat} {x:Inl} (hx:l[k]?=some x):Inl.deepL (l.take (k+1))=Inl.deepL (l.take k)++x.deep:=by
 rw [List.take_add_one,hx,Inl.deepL_app]
 simp [Inl.deepL]
theorem Inl.szL_take (l:List Inl) (k:Nat):Inl.szL (l.take k)<=Inl.szL l:=by
 have:=Inl.szL_app (l.take k) (l.drop k)
 rw [List.take_append_drop] at this
 omega
def DpRel (B:Nat) (w:World) (l:List Inl) (v vi:Value) (wr:World):Prop:=∃ (k:Nat) (rows:List (List Value)),k<=l.length/\vi=.int .i64 k/\Row 47 10 B w ((Inl.deepL (l.take k)).map Inl.d) rows v wr
theorem deep_any (n:Nat):∀ (l:List Inl) (B:Nat) (v:Value) (w:World),Inl.szL l<=n->n<=1000000->Rd (·<B) w (q0w l) [v]->B<=w.heap.size ->
  Calls Tryz.prog 17 #[v] w fun e w'=>∃ v' rows,e=.returned v'/\Row 47 10 B w ((Inl.deepL l).map Inl.d) rows v' w':=by
 induction n using Nat.strongRecOn with
 | _ n ih=>
  intro l B v w hn hnm hrd hB
  obtain ⟨iI,hiI,hzI0,hzI1,hzI2⟩:=info_parts infoIn2
  obtain ⟨a,cap,hv,hs⟩:=Rd.sl_open hrd
  obtain rfl:v=.slice a l.length cap:=by simpa using hv
  have hcap:l.length<=cap:=by simpa using hs.le
  have hmx:=hs.max
  unfold maxLen at hmx
  have HS:=hid hs
  have IH:=hid ih
  have R0:Hid (DpRel B w l (.slice none 0 0) (.int .i64 0) w):=⟨0,[],Nat.zero_le _,rfl,by rw [List.take_zero,Inl.deepL];exact Row.nil _ _ _ _⟩
  clear hs hv hrd ih
  go_enter Tryz.func17,Tryz.ntmps17
  go_wp2
  go_loopw [3,4] (fun v vi wr=>DpRel B w l v vi wr) (fun _ i _=>l.length-(intOf i).toNat)
  case atStart=>exact R0.out
  case round=>
   clear R0
   obtain ⟨k,rows,hk,rfl,hrow⟩:=hrel
   obtain ⟨av,cv,hve⟩:=q09 hrow.own
   subst hve
   by_cases hlt:k<l.length
   ·obtain ⟨x,hx⟩:∃ x,l[k]?=some x:=⟨_,List.getElem?_eq_getElem hlt⟩
    obtain ⟨kd,t,d,ti,at_,ar,ci,ks⟩:=x
    obtain ⟨g,off,vc,vp,va,vi,vk,rfl,hok,hbl,hc,hR⟩:=q1b HS.out hx
    have hsz:=Inl.szL_get l k _ hx
    rw [Inl.sz] at hsz
    obtain ⟨aa,na,ca,rfl⟩:=Rd.slf hR.args
    obtain ⟨ai,ni,cai,rfl⟩:=Rd.slf hR.cites
    obtain ⟨ac,nc,cc,rfl⟩:=Rd.slf hR.at_.cls
    obtain ⟨ap,np,cp,rfl⟩:=Rd.slf hR.at_.prs
    obtain ⟨ak,nk,ck,rfl⟩:=Rd.slf hR.kids
    have hgw:wr.heap[g]?=w.heap[g]?:=hrow.bel.block g (by omega)
    obtain ⟨p0,p1,p2,p3,p4,p5,p6,p7,p8,p9⟩:=hc.at2 (w':=wr) hgw
    have hrx:=Inl.mk_ (ok:=(·<B)) (w:=w) kd t d ti hR
    have hlen0:((Inl.deepL (l.take k)).map Inl.d).length<=1000000:=by rw [List.length_map,Inl.deepL_sz];have:=Inl.szL_take l k;omega
    have hsn:=Inl.szL_take l (k+1)
    rw [Inl.szL_snoc hx,Inl.sz] at hsn
    have hlk:((Inl.deepL (l.take k)).map Inl.d).length=Inl.szL (l.take k):=by rw [List.length_map,Inl.deepL_sz]
    obtain ⟨L,hL⟩:∃ L,L=((Inl.deepL (l.take k)).map Inl.d).length:=⟨_,rfl⟩
    obtain ⟨ds,hds⟩:∃ ds,ds=(Inl.deepL (l.take k)).map Inl.d:=⟨_,rfl⟩
    rw [<- hds] at hrow hlen0 hlk hL ⊢
    rw [<- hL]
    rw [<- hL] at hrow
    have ow0:=hrow.own
    rw [<- hL] at ow0
    have HOW0:=hid ow0
    clear ow0
    have HDS:=hid hds
    have HROW:=hid hrow
    have HR:=hid hR
    have HRX:=hid hrx
    have HX:=hid hx
    have HC:=hid hc
    have hwz:=hrow.bel.size
    have hLl:L<=1000000:=by omega
    have HL:=hid hL
    clear hc hR hx hrx hds hrow hL
    go_wp2_with (at_builtin;refine q08 _ rfl (.tmp 11) (.tmp 16) 38 rfl w.heap.size 47 iI _ 10 192 Tryz.underlying38 hiI hzI0 hzI1 hzI2 rfl (by decide) (.slice av L cv) L rows.flatten rfl (HOW0.out.alloc _) (wr.heap.size+1) (some ⟨wr.heap.size,0,none⟩) 1 1 [.int .i64 kd,.string t,.string d,.string ti,.string at_.id,.slice ac nc cc,.slice ap np cp,.slice aa na ca,.slice ai ni cai,.slice ak nk ck] rfl ?g1 ?g2 ?g3 ?g4 ?g5 ?_)
    case g1=>exact ⟨rfl,fun _=>⟨_,rfl,by simp,q0o wr [.int .i64 kd,.string t,.string d,.string ti,.string at_.id,.slice ac nc cc,.slice ap np cp,.slice aa na ca,.slice ai ni cai,.slice ak nk ck] _⟩⟩
    case g2=>exact Rd.cells1 _ _ HRX.out
    case g3=>unfold maxLen;omega
    case g4=>omega
    case g5=>simp;omega
    intro v1 w1 hown1 hg1 _
    obtain ⟨a1,c1,rfl⟩:=q09 hown1
    have hua:Below wr.heap.size wr (wr.alloc (.cells #[.int .i64 kd,.string t,.string d,.string ti,.string at_.id,.slice ac nc cc,.slice ap np cp,.slice aa na ca,.slice ai ni cai,.slice ak nk ck] 47)):=(Below.refl _ _).alloc (Nat.le_refl _) _
    have row1:Row 47 10 B w (ds++[Inl.d (.mk kd t d ti at_ ar ci ks)]) (rows++[[.int .i64 kd,.string t,.string d,.string ti,.string at_.id,.slice ac nc cc,.slice ap np cp,.slice aa na ca,.slice ai ni cai,.slice ak nk ck]]) (.slice a1 (L+1) c1) w1:=by
     refine (HROW.out.up (by omega) hua).app hB (RdL.one (Rd.keep (fun b h1 h2=>⟨h1,?_⟩) _ _ HRX.out)) (by simp) ?_ hg1
     ·exact (hua.block b (by omega)).trans (HROW.out.bel.block b h2)
     ·rw [List.length_singleton,List.flatten_singleton,<- HL.out];exact hown1
    have hb1:=row1.bel
    have k9:w1.cell? ⟨g,off+k*10+9,none⟩=some (.slice ak nk ck):=(HC.out.at2 (w':=w1) (hb1.block g (by omega))).c9
    have hz1:=hb1.size
    have DC:=hid (IH.out (Inl.szL ks) (by omega) ks B (.slice ak nk ck) w1 (Nat.le_refl _) (by omega) (Rd.keep (fun b h1 h2=>⟨h1,hb1.block b h2⟩) _ _ HR.out.kids) (by omega))
    have ROW1:=hid row1
    clear hown1 hg1 hua row1 hb1 HROW p0 p1 p2 p3 p4 p5 p6 p7 p8 p9 hgw
    go_wp2_with fail
    refine DC.out.mono ?_
    rintro e w2 ⟨v2,rows2,rfl,hrow2⟩
    obtain ⟨a2,c2,rfl⟩:=q09 hrow2.own
    have hb2:=hrow2.bel
    have hz2:=hb2.size
    have ROW2:=hid (ROW1.out.up (by omega) hb2)
    have HROW2:=hid hrow2
    have hks:((Inl.deepL ks).map Inl.d).length=Inl.szL ks:=by rw [List.length_map,Inl.deepL_sz]
    have RD2:=hid (Reads.of_own hrow2.own)
    have ON2:=hid (RdL.cells1 _ _ hrow2.red)
    have hl1:(ds++[Inl.d (.mk kd t d ti at_ ar ci ks)]).length=L+1:=by rw [List.length_append,List.length_singleton,<- HL.out]
    have OW2:=ROW2.out.own
    rw [hl1] at OW2
    obtain ⟨F,hF⟩:∃ F:List Value,F=(rows++[([.int .i64 kd,.string t,.string d,.string ti,.string at_.id,.slice ac nc cc,.slice ap np cp,.slice aa na ca,.slice ai ni cai,.slice ak nk ck]:List Value)]).flatten:=⟨_,rfl⟩
    rw [<- hF] at OW2
    have HF:=hid hF
    clear hF
    obtain ⟨M,hM⟩:∃ M,M=((Inl.deepL ks).map Inl.d).length:=⟨_,rfl⟩
    rw [<- hM] at RD2 hks ⊢
    have HOW2:=hid OW2
    have HM:=hid hM
    have HL1:=hid hl1
    have HKS:=hid hks
    clear OW2 hM hl1 hrow2 hb2 DC ROW1 hks
    go_wp2_with (at_builtin;refine q08 _ rfl (.tmp 18) (.tmp 24) 38 rfl w.heap.size 47 iI _ 10 192 Tryz.underlying38 hiI hzI0 hzI1 hzI2 rfl (by decide) (.slice a1 (L+1) c1) (L+1) F rfl HOW2.out w2.heap.size a2 M c2 rows2.flatten rfl RD2.out ON2.out ?k3 ?k4 ?k5 ?_)
    case k3=>have:=HKS.out;unfold maxLen;omega
    case k4=>have:=HKS.out;have:=HL.out;omega
    case k5=>omega
    intro v3 w3 hown3 hg3 _
    obtain ⟨a3,c3,rfl⟩:=q09 hown3
    have row3:=hid (ROW2.out.app hB HROW2.out.red HROW2.out.len (by rw [HL1.out,<- HM.out,<- HF.out];exact hown3) hg3)
    clear hown3 hg3 ROW2 HROW2 RD2 ON2
    go_wp2
    go_roundw
    case rel=>
     refine ⟨k+1,rows++[[.int .i64 kd,.string t,.string d,.string ti,.string at_.id,.slice ac nc cc,.slice ap np cp,.slice aa na ca,.slice ai ni cai,.slice ak nk ck]]++rows2,by omega,by go_num,?_⟩
     have h3:=row3.out
     rw [HDS.out] at h3
     rw [Inl.deepL_snoc HX.out,Inl.deep,List.map_append,List.map_cons]
     simpa using h3
    case measure=>simp [intOf];omega
   ·have hkl:k=l.length:=by omega
    subst hkl
    rw [List.take_length] at hrow ⊢
    have HROW:=hid hrow
    clear hrow HS IH
    go_wp2
    go_ret
    exact ⟨.slice av _ cv,rows,rfl,HROW.out⟩
open Go.RowKit
theorem BlCells.at4 {w w':World} {b o:Nat} {k lv:Int} {i t d ti id:ByteArray} {vc vp vl vk:Value} (h:BlCells w b o k lv i t d ti id vc vp vl vk) (hb:w'.heap[b]?=w.heap[b]?):BlCells w' b o k lv i t d ti id vc vp vl vk:=by
 obtain ⟨c0,c1,c2,c3,c4,c5,c6,c7,c8,c9,c10⟩:=h
 exact ⟨(q07 hb _).trans c0,(q07 hb _).trans c1,(q07 hb _).trans c2,(q07 hb _).trans c3,(q07 hb _).trans c4,(q07 hb _).trans c5,(q07 hb _).trans c6,(q07 hb _).trans c7,(q07 hb _).trans c8,(q07 hb _).trans c9,(q07 hb _).trans c10⟩
theorem Blk.szL_app2 (l m:List Blk):Blk.szL (l++m)=Blk.szL l+Blk.szL m:=by
 induction l with
 | nil=>rw [Blk.szL];simp
 | cons x l ih=>rw [List.cons_append,Blk.szL,Blk.szL,ih];omega
theorem Blk.szL_snoc2 {l:List Blk} {k:Nat} {x:Blk} (hx:l[k]?=some x):Blk.szL (l.take (k+1))=Blk.szL (l.take k)+x.sz:=by
 rw [List.take_add_one,hx,Blk.szL_app2]
 simp [Blk.szL]
theorem Blk.szL_take2 (l:List Blk) (k:Nat):Blk.szL (l.take k)<=Blk.szL l:=by
 have:=Blk.szL_app2 (l.take k) (l.drop k)
 rw [List.take_append_drop] at this
 omega
def RltRel (B:Nat) (w:World) (l:List Blk) (v vi:Value) (wr:World):Prop:=∃ (k:Nat) (rows:List (List Value)),k<=l.length/\vi=.int .i64 k/\Row 53 11 B w ((Blk.eachL (l.take k)).map Blk.d) rows v wr
theorem list_any (n:Nat):∀ (l:List Blk) (B:Nat) (v:Value) (w:World),Blk.szL l<=n->n<=1000000->Rd (·<B) w (q0x l) [v]->B<=w.heap.size ->
  Calls Tryz.prog 18 #[v] w fun e w'=>∃ v' rows,e=.returned v'/\Row 53 11 B w ((Blk.eachL l).map Blk.d) rows v' w':=by
 induction n using Nat.strongRecOn with
 | _ n ih=>
  intro l B v w hn hnm hrd hB
  obtain ⟨iI,hiI,hzI0,hzI1,hzI2⟩:=info_parts infoBl2
  obtain ⟨a,cap,hv,hs⟩:=Rd.sl_open hrd
  obtain rfl:v=.slice a l.length cap:=by simpa using hv
  have hcap:l.length<=cap:=by simpa using hs.le
  have hmx:=hs.max
  unfold maxLen at hmx
  have HS:=hid hs
  have IH:=hid ih
  have R0:Hid (RltRel B w l (.slice none 0 0) (.int .i64 0) w):=⟨0,[],Nat.zero_le _,rfl,by rw [List.take_zero,Blk.eachL];exact Row.nil _ _ _ _⟩
  clear hs hv hrd ih
  go_enter Tryz.func18,Tryz.ntmps18
  go_wp2
  go_loopw [3,4] (fun v vi wr=>RltRel B w l v vi wr) (fun _ i _=>l.length-(intOf i).toNat)
  case atStart=>exact R0.out
  case round=>
   clear R0
   obtain ⟨k,rows,hk,rfl,hrow⟩:=hrel
   obtain ⟨av,cv,hve⟩:=q09 hrow.own
   subst hve
   by_cases hlt:k<l.length
   ·obtain ⟨x,hx⟩:∃ x,l[k]?=some x:=⟨_,List.getElem?_eq_getElem hlt⟩
    obtain ⟨kd,lv,inf,t,d,ti,at_,li,ks⟩:=x
    obtain ⟨g,off,vc,vp,vl,vk,rfl,hok,hbl,hc,hR⟩:=q1w HS.out hx
    have hsz:=Blk.szL_get l k _ hx
    rw [Blk.sz] at hsz
    obtain ⟨al,nl,cl,rfl⟩:=Rd.slf hR.line
    obtain ⟨ac,nc,cc,rfl⟩:=Rd.slf hR.at_.cls
    obtain ⟨ap,np,cp,rfl⟩:=Rd.slf hR.at_.prs
    obtain ⟨ak,nk,ck,rfl⟩:=Rd.slf hR.kids
    have hgw:wr.heap[g]?=w.heap[g]?:=hrow.bel.block g (by omega)
    obtain ⟨p0,p1,p2,p3,p4,p5,p6,p7,p8,p9,p10⟩:=hc.at4 (w':=wr) hgw
    have hrx:=Blk.mk_ (ok:=(·<B)) (w:=w) kd lv inf t d ti hR
    have hlen0:((Blk.eachL (l.take k)).map Blk.d).length<=1000000:=by rw [List.length_map,Blk.eachL_sz];have:=Blk.szL_take2 l k;omega
    have hsn:=Blk.szL_take2 l (k+1)
    rw [Blk.szL_snoc2 hx,Blk.sz] at hsn
    have hlk:((Blk.eachL (l.take k)).map Blk.d).length=Blk.szL (l.take k):=by rw [List.length_map,Blk.eachL_sz]
    obtain ⟨L,hL⟩:∃ L,L=((Blk.eachL (l.take k)).map Blk.d).length:=⟨_,rfl⟩
    obtain ⟨ds,hds⟩:∃ ds,ds=(Blk.eachL (l.take k)).map Blk.d:=⟨_,rfl⟩
    rw [<- hds] at hrow hlen0 hlk hL ⊢
    rw [<- hL]
    rw [<- hL] at hrow
    have ow0:=hrow.own
    rw [<- hL] at ow0
    have HOW0:=hid ow0
    clear ow0
    have HDS:=hid hds
    have HROW:=hid hrow
    have HR:=hid hR
    have HRX:=hid hrx
    have HX:=hid hx
    have HC:=hid hc
    have hwz:=hrow.bel.size
    have hLl:L<=1000000:=by omega
    have HL:=hid hL
    clear hc hR hx hrx hds hrow hL
    go_wp2_with (at_builtin;refine q08 _ rfl (.tmp 11) (.tmp 16) 23 rfl w.heap.size 53 iI _ 11 192 Tryz.underlying23 hiI hzI0 hzI1 hzI2 rfl (by decide) (.slice av L cv) L rows.flatten rfl (HOW0.out.alloc _) (wr.heap.size+1) (some ⟨wr.heap.size,0,none⟩) 1 1 [.int .i64 kd,.int .i64 lv,.string inf,.string t,.string d,.string ti,.string at_.id,.slice ac nc cc,.slice ap np cp,.slice al nl cl,.slice ak nk ck] rfl ?g1 ?g2 ?g3 ?g4 ?g5 ?_)
    case g1=>exact ⟨rfl,fun _=>⟨_,rfl,by simp,q0o wr [.int .i64 kd,.int .i64 lv,.string inf,.string t,.string d,.string ti,.string at_.id,.slice ac nc cc,.slice ap np cp,.slice al nl cl,.slice ak nk ck] _⟩⟩
    case g2=>exact Rd.cells1 _ _ HRX.out
    case g3=>unfold maxLen;omega
    case g4=>omega
    case g5=>simp;omega
    intro v1 w1 hown1 hg1 _
    obtain ⟨a1,c1,rfl⟩:=q09 hown1
    have hua:Below wr.heap.size wr (wr.alloc (.cells #[.int .i64 kd,.int .i64 lv,.string inf,.string t,.string d,.string ti,.string at_.id,.slice ac nc cc,.slice ap np cp,.slice al nl cl,.slice ak nk ck] 53)):=(Below.refl _ _).alloc (Nat.le_refl _) _
    have row1:Row 53 11 B w (ds++[Blk.d (.mk kd lv inf t d ti at_ li ks)]) (rows++[[.int .i64 kd,.int .i64 lv,.string inf,.string t,.string d,.string ti,.string at_.id,.slice ac nc cc,.slice ap np cp,.slice al nl cl,.slice ak nk ck]]) (.slice a1 (L+1) c1) w1:=by
     refine (HROW.out.up (by omega) hua).app hB (RdL.one (Rd.keep (fun b h1 h2=>⟨h1,?_⟩) _ _ HRX.out)) (by simp) ?_ hg1
     ·exact (hua.block b (by omega)).trans (HROW.out.bel.block b h2)
     ·rw [List.length_singleton,List.flatten_singleton,<- HL.out];exact hown1
    have hb1:=row1.bel
    have k10:w1.cell? ⟨g,off+k*11+10,none⟩=some (.slice ak nk ck):=(HC.out.at4 (w':=w1) (hb1.block g (by omega))).c10
    have hz1:=hb1.size
    have DC:=hid (IH.out (Blk.szL ks) (by omega) ks B (.slice ak nk ck) w1 (Nat.le_refl _) (by omega) (Rd.keep (fun b h1 h2=>⟨h1,hb1.block b h2⟩) _ _ HR.out.kids) (by omega))
    have ROW1:=hid row1
    clear hown1 hg1 hua row1 hb1 HROW p0 p1 p2 p3 p4 p5 p6 p7 p8 p9 p10 hgw
    go_wp2_with fail
    refine DC.out.mono ?_
    rintro e w2 ⟨v2,rows2,rfl,hrow2⟩
    obtain ⟨a2,c2,rfl⟩:=q09 hrow2.own
    have hb2:=hrow2.bel
    have hz2:=hb2.size
    have ROW2:=hid (ROW1.out.up (by omega) hb2)
    have HROW2:=hid hrow2
    have hks:((Blk.eachL ks).map Blk.d).length=Blk.szL ks:=by rw [List.length_map,Blk.eachL_sz]
    have RD2:=hid (Reads.of_own hrow2.own)
    have ON2:=hid (RdL.cells1 _ _ hrow2.red)
    have hl1:(ds++[Blk.d (.mk kd lv inf t d ti at_ li ks)]).length=L+1:=by rw [List.length_append,List.length_singleton,<- HL.out]
    have OW2:=ROW2.out.own
    rw [hl1] at OW2
    obtain ⟨F,hF⟩:∃ F:List Value,F=(rows++[([.int .i64 kd,.int .i64 lv,.string inf,.string t,.string d,.string ti,.string at_.id,.slice ac nc cc,.slice ap np cp,.slice al nl cl,.slice ak nk ck]:List Value)]).flatten:=⟨_,rfl⟩
    rw [<- hF] at OW2
    have HF:=hid hF
    clear hF
    obtain ⟨M,hM⟩:∃ M,M=((Blk.eachL ks).map Blk.d).length:=⟨_,rfl⟩
    rw [<- hM] at RD2 hks ⊢
    have HOW2:=hid OW2
    have HM:=hid hM
    have HL1:=hid hl1
    have HKS:=hid hks
    clear OW2 hM hl1 hrow2 hb2 DC ROW1 hks
    go_wp2_with (at_builtin;refine q08 _ rfl (.tmp 18) (.tmp 24) 23 rfl w.heap.size 53 iI _ 11 192 Tryz.underlying23 hiI hzI0 hzI1 hzI2 rfl (by decide) (.slice a1 (L+1) c1) (L+1) F rfl HOW2.out w2.heap.size a2 M c2 rows2.flatten rfl RD2.out ON2.out ?k3 ?k4 ?k5 ?_)
    case k3=>have:=HKS.out;unfold maxLen;omega
    case k4=>have:=HKS.out;have:=HL.out;omega
    case k5=>omega
    intro v3 w3 hown3 hg3 _
    obtain ⟨a3,c3,rfl⟩:=q09 hown3
    have row3:=hid (ROW2.out.app hB HROW2.out.red HROW2.out.len (by rw [HL1.out,<- HM.out,<- HF.out];exact hown3) hg3)
    clear hown3 hg3 ROW2 HROW2 RD2 ON2
    go_wp2
    go_roundw
    case rel=>
     refine ⟨k+1,rows++[[.int .i64 kd,.int .i64 lv,.string inf,.string t,.string d,.string ti,.string at_.id,.slice ac nc cc,.slice ap np cp,.slice al nl cl,.slice ak nk ck]]++rows2,by omega,by go_num,?_⟩
     have h3:=row3.out
     rw [HDS.out] at h3
     rw [Blk.eachL_take l k _ HX.out,Blk.each,List.map_append,List.map_cons]
     simpa using h3
    case measure=>simp [intOf];omega
   ·have hkl:k=l.length:=by omega
    subst hkl
    rw [List.take_length] at hrow ⊢
    have HROW:=hid hrow
    clear hrow HS IH
    go_wp2
    go_ret
    exact ⟨.slice av _ cv,rows,rfl,HROW.out⟩
open Go.RowKit
def Blk.lnI:Blk->List Inl
 | .mk _ _ _ _ _ _ _ li _=>li
def deepB:List Blk->List Inl
 | []=>[]
 | x::l=>Inl.deepL x.lnI++deepB l
theorem deepB_app:∀ (l m:List Blk),deepB (l++m)=deepB l++deepB m
 | [],m=>rfl
 | x::l,m=>by rw [List.cons_append,deepB,deepB_app l m,deepB,List.append_assoc]
theorem deepB_snoc {l:List Blk} {k:Nat} {x:Blk} (h:l[k]?=some x):deepB (l.take (k+1))=deepB (l.take k)++Inl.deepL x.lnI:=by
 rw [List.take_add_one,h,deepB_app];simp [deepB]
theorem deepB_part (l:List Blk) (k:Nat):(deepB (l.take k)).length<=(deepB l).length:=by
 have h:deepB l=deepB (l.take k++l.drop k):=by rw [List.take_append_drop]
 rw [h,deepB_app,List.length_append];omega
mutual
theorem Blk.inls_deep:∀ (x:Blk),x.inls=deepB x.each
 | .mk k lv i t d ti a li ks=>by rw [Blk.inls,Blk.each,deepB,Blk.inlsL_deep ks];rfl
theorem Blk.inlsL_deep:∀ (l:List Blk),Blk.inlsL l=deepB (Blk.eachL l)
 | []=>by rw [Blk.inlsL,Blk.eachL];rfl
 | x::l=>by rw [Blk.inlsL,Blk.eachL,deepB_app,Blk.inls_deep x,Blk.inlsL_deep l]
end
def RiRel (B:Nat) (w:World) (l:List Blk) (v vi:Value) (wr:World):Prop:=
 ∃ (k:Nat) (rows:List (List Value)),k<=l.length/\vi=.int .i64 k/\Row 47 10 B w ((deepB (l.take k)).map Inl.d) rows v wr
theorem rInls_any (l:List Blk) (v:Value) (w:World) (hsz:Blk.szL l<=1000000) (hil:(Blk.inlsL l).length<=1000000) (hrd:Rd (·<w.heap.size) w (q0x l) [v]) :
  Calls Tryz.prog 20 #[v] w fun e w'=>∃ v',e=.returned v'/\Rd (·<w'.heap.size) w' (q0w (Blk.inlsL l)) [v']/\Below w.heap.size w w':=by
 obtain ⟨iI,hiI,hzI0,hzI1,hzI2⟩:=info_parts infoIn
 have LS:=hid (list_any _ l w.heap.size v w (Nat.le_refl _) hsz hrd (Nat.le_refl _))
 rw [Blk.inlsL_deep] at hil ⊢
 obtain ⟨E,hE⟩:∃ E,E=Blk.eachL l:=⟨_,rfl⟩
 rw [<- hE] at LS hil ⊢
 clear hrd hE
 go_enter Tryz.func20,Tryz.ntmps20
 go_wp2_with fail
 refine LS.out.mono ?_
 rintro e w1 ⟨v1,rows1,rfl,hr1⟩
 have b1:=hr1.bel
 have hE1:Rd (·<w1.heap.size) w1 (q0x E) [v1]:=
  Rd.sl_own (l:=E.map Blk.d) (rows:=rows1) (B:=w.heap.size) (e:=53) hr1.own (RdL.keep (fun b h1 h2=>⟨h2,rfl⟩) _ _ hr1.red) hr1.len (fun g hg=>(hr1.own.lt g hg).2)
 obtain ⟨a1,c1,hv1,hs1⟩:=Rd.sl_open hE1
 obtain rfl:v1=.slice a1 E.length c1:=by simpa using hv1
 have hc1:E.length<=c1:=by simpa using hs1.le
 have hm1:=hs1.max
 unfold maxLen at hm1
 have HS:=hid hs1
 have HB1:=hid b1
 have R0:Hid (RiRel w1.heap.size w1 E (.slice none 0 0) (.int .i64 0) w1):=⟨0,[],Nat.zero_le _,rfl,Row.nil _ _ _ _⟩
 clear hr1 hE1 hv1 hs1 b1 LS
 go_wp2
 go_loopw [3,5] (fun v vi wr=>RiRel w1.heap.size w1 E v vi wr) (fun _ i _=>E.length-(intOf i).toNat)
 case atStart=>exact R0.out
 case round=>
  clear R0
  obtain ⟨k,rows,hk,rfl,hrow⟩:=hrel
  have hdp:=deepB_part E k
  obtain ⟨L,hL⟩:∃ L,L=((deepB (E.take k)).map Inl.d).length:=⟨_,rfl⟩
  have hLl:L<=1000000:=by rw [hL,List.length_map];omega
  have HL:=hid hL
  have hown:=hrow.own
  rw [<- hL] at hown
  obtain ⟨av,cv,rfl⟩:=q09 hown
  have HOWN:=hid hown
  have HROW:=hid hrow
  have hbel:=hrow.bel
  have hz:=hbel.size
  clear hL hrow hown
  by_cases hlt:k<E.length
  ·obtain ⟨x,hx⟩:∃ x,E[k]?=some x:=⟨_,List.getElem?_eq_getElem hlt⟩
   have hsn:=deepB_snoc hx
   have hsl:=deepB_part E (k+1)
   rw [hsn,List.length_append] at hsl
   obtain ⟨kd,lv,i,t,d,ti,at_,li,ks⟩:=x
   obtain ⟨g,off,vc,vp,vl,vk,rfl,hok,hbl,hc,hR⟩:=q1w (HS.out.below hbel) hx
   obtain ⟨al,nl,cl,rfl⟩:=Rd.slf hR.line
   have c9:=hc.c9
   have hli:Inl.szL li<=1000000:=by
    rw [<- Inl.deepL_sz]
    have:(Inl.deepL li).length<=(deepB E).length:=by change (deepB (E.take k)).length+(Inl.deepL li).length<=_ at hsl;omega
    omega
   have hsl2:L+(Inl.deepL li).length<=1000000:=by
    change (deepB (E.take k)).length+(Inl.deepL li).length<=_ at hsl
    rw [HL.out,List.length_map];omega
   have DC:=hid (deep_any _ li w1.heap.size (.slice al nl cl) wr (Nat.le_refl _) hli hR.line hz)
   have HSN:=hid hsn
   clear hc hR hx hsn hsl hdp hok hbl hli
   go_wp2_with fail
   refine DC.out.mono ?_
   rintro e w2 ⟨v2,rows2,rfl,hrow2⟩
   obtain ⟨M,hM⟩:∃ M,M=((Inl.deepL li).map Inl.d).length:=⟨_,rfl⟩
   have hMl:L+M<=1000000:=by rw [hM,List.length_map];exact hsl2
   have hown2:=hrow2.own
   rw [<- hM] at hown2
   obtain ⟨a2,c2,rfl⟩:=q09 hown2
   have hb2:=hrow2.bel
   have hz2:=hb2.size
   have ROW2:=hid (HROW.out.up hz hb2)
   have HROW2:=hid hrow2
   have RD2:=hid (Reads.of_own hown2)
   have ON2:=hid (RdL.cells1 _ _ hrow2.red)
   have HM:=hid hM
   have OW2:=ROW2.out.own
   rw [<- HL.out] at OW2
   have HOW2:=hid OW2
   clear hM hown2 hrow2 hb2 OW2 DC c9 hsl2
   go_wp2_with (at_builtin;refine q08 _ rfl (.tmp 14) (.tmp 20) 38 rfl w1.heap.size 47 iI _ 10 192 Tryz.underlying38 hiI hzI0 hzI1 hzI2 rfl (by decide) (.slice av L cv) L rows.flatten rfl HOW2.out w2.heap.size a2 M c2 rows2.flatten rfl RD2.out ON2.out ?k3 ?k4 ?k5 ?_)
   case k3=>unfold maxLen;omega
   case k4=>omega
   case k5=>omega
   intro v3 w3 hown3 hg3 _
   obtain ⟨a3,c3,rfl⟩:=q09 hown3
   have row3:=hid (ROW2.out.app (Nat.le_refl _) HROW2.out.red HROW2.out.len (by rw [<- HL.out,<- HM.out];exact hown3) hg3)
   clear hown3 hg3 ROW2 HROW2 RD2 ON2
   go_wp2
   go_roundw
   case rel=>
    refine ⟨k+1,rows++rows2,by omega,by go_num,?_⟩
    rw [HSN.out,List.map_append]
    exact row3.out
   case measure=>simp [intOf];omega
  ·have hkl:k=E.length:=by omega
   subst hkl
   have h1:=HROW.out
   rw [List.take_length] at h1 HL
   have HR1:=hid h1
   clear h1 HROW HOWN hdp
   go_wp2
   go_ret
   refine ⟨_,rfl,?_,q01 HB1.out hbel⟩
   have hown:=HR1.out.own
   have h2:=Rd.sl_own (l:=(deepB E).map Inl.d) (ok:=(·<wr.heap.size)) (rows:=rows) (B:=w1.heap.size) (e:=47) hown (RdL.keep (fun b h1 h2=>⟨h2,rfl⟩) _ _ HR1.out.red) HR1.out.len (fun g hg=>(hown.lt g hg).2)
   exact h2
end Go.Proofs.YtlbioncagkkkoaaGreatDoor
