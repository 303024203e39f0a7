/- Contract of html.table: the node of a table. A literal of two nodes; what Page leaves. -/
import Derived.Test.YtclikfjalmcoaaaGreatDoorKHtR
set_option maxHeartbeats 8000000
set_option maxRecDepth 100000
open Go.Lib (hid)
namespace Go.Proofs.YtclikfjalmcoaaaGreatDoor
open List renaming setIfInBounds_toArray->je3,set_cons_zero->je4,set_cons_succ->je5,length_map->jex
open Go.RowKit.Below renaming refl->je7,heap_alloc->jf2
open Nat renaming le_refl->je8
open Option.some renaming inj->jf0
open Go renaming World->jh9,Value->jhk
open Go.RowKit renaming Below->jhj
open Go.RowKit
set_option linter.unusedVariables false
set_option linter.unusedSimpArgs false
structure YG (i:ByteArray) (ks:List ah):Prop where
 ne:ks≠[]
 len:ks.length<=900000
 row:∀ r∈ks,r.kids.length=i.size/\r.kids.length<=1000000/\∀ c∈r.kids,Uu c.kX
theorem jV.Bj {ok ok':Nat->Prop} {w w':jh9} {a:At} {li:List aj} {ks:List ah} {vc vp vl vk:jhk} (h:jV ok w a li ks vc vp vl vk) (hs:uh ok ok' w w'):jV ok' w' a li ks vc vp vl vk:=
 ⟨⟨Rd.keep hs _ _ h.at_.cls,Rd.keep hs _ _ h.at_.aP⟩,Rd.keep hs _ _ h.line,Rd.keep hs _ _ h.kids⟩
structure xu (W0:jh9) (q:Option Nat) (w:jh9) (d:D) (vs:List jhk):Prop where
 aJ:jhj W0.heap.size W0 w
 cb:∀ p,q=some p->W0.heap.size<=p/\CB 43 p jy w
 rd:Rd (fun b=>W0.heap.size<=b/\some b≠q) w d vs
theorem xu.far {W0 w w':jh9} {q:Option Nat} {d:D} {vs:List jhk} (h:xu W0 q w d vs) (hb:jhj w.heap.size w w'):xu W0 q w' d vs:=
 ⟨h.aJ.trans (hb.mono h.aJ.size),fun p hp=>⟨(h.cb p hp).1,(h.cb p hp).2.below hb⟩,h.rd.aV hb⟩
theorem xu.nd {W0 w w':jh9} {q:Option Nat} {d d':D} {vs vs':List jhk} (h:xu W0 q w d vs) (hb:jhj w.heap.size w w') (hr:Rd (w.heap.size<=·) w' d' vs'):xu W0 q w' d' vs':=
 ⟨(h.far hb).aJ,(h.far hb).cb,hr.weaken (fun b hk=>⟨Nat.le_trans h.aJ.size hk,fun e=>by have:=(h.cb b e.symm).2.lt;omega⟩)⟩
theorem xu.zero {W0 w:jh9} {d:D} {vs:List jhk} (h:xu W0 none w d vs):xu W0 (some w.heap.size) (w.alloc (.cells #[.string ⟨#[]⟩,.string ⟨#[]⟩,.slice none 0 0,.slice none 0 0] 43)) d vs:=by refine ⟨h.aJ.alloc h.aJ.size _,fun p hp=>?_,Rd.keep (fun b hb hlt=>⟨⟨hb.1,fun e=>by have:=jf0 e;omega⟩,jf2 w _ b hlt⟩) _ _ h.rd⟩;obtain rfl:=jf0 hp;exact ⟨h.aJ.size,CB.new _ jy w⟩
theorem KT {w:jh9} {g:Nat} {cs:List jhk} (h:CB 43 g cs w) (hl:cs.length=4):w.ownsRow g 43 4 (.slice (some ⟨g,0,none⟩) 1 1) 1 ([cs]:List (List jhk)).flatten:=by
 refine ⟨by simp [hl],.inr ⟨g,1,cs.toArray,rfl,je8 _,h,by simp,by unfold maxLen;omega,?_,?_⟩⟩
 ·simp [hl]
 ·rw [<- hl];simp
theorem xu.lit {W0 w:jh9} {q:Option Nat} {x:Nd} {c0 c1 c2 c3:jhk} (h:xu W0 q w x.d [c0,c1,c2,c3]):xu W0 q (w.alloc (.cells #[c0,c1,c2,c3] 43)) (bX [x]) [.slice (some ⟨w.heap.size,0,none⟩) 1 1]:=by
 have hb:jhj w.heap.size w (w.alloc (.cells #[c0,c1,c2,c3] 43)):=(je7 _ _).alloc (je8 _) _;have h2:=h.far hb;refine ⟨h2.aJ,h2.cb,Rd.ig (l:=[x.d]) (rows:=[[c0,c1,c2,c3]]) (KT (CB.new _ [c0,c1,c2,c3] w) rfl) (aO.one h2.rd) (by simp) (fun g hg=>?_)⟩;have e1:w.heap.size=g:=by simpa [Value.ownBlock] using hg
 exact ⟨by rw [<- e1];exact h.aJ.size,fun e=>by have:=(h.cb g e.symm).2.lt;omega⟩
theorem xu.el {W0 w w':jh9} {q:Option Nat} {ks:List Nd} {v:jhk} (h:xu W0 q w (bX ks) [v]) (hb:jhj w.heap.size w w') (n:ByteArray):xu W0 q w' (aN n [] ks).d [.string n,.string ⟨#[]⟩,.slice none 0 0,v]:=
 ⟨(h.far hb).aJ,(h.far hb).cb,Nd.gI n ⟨#[]⟩ ⟨Rd.aB _ _ _,(h.far hb).rd⟩⟩
structure NW (W0:jh9) (q:Option Nat) (g:Nat) (w:jh9) (d:D) (cs:List jhk):Prop where
 aJ:jhj W0.heap.size W0 w
 cb:∀ p,q=some p->W0.heap.size<=p/\CB 43 p jy w
 hg:W0.heap.size<=g/\some g≠q
 cg:CB 43 g cs w
 rd:Rd (fun b=>(W0.heap.size<=b/\some b≠q)/\b≠g) w d cs
theorem NW.far {W0 w w':jh9} {q:Option Nat} {g:Nat} {d:D} {vs:List jhk} (h:NW W0 q g w d vs) (hb:jhj w.heap.size w w'):NW W0 q g w' d vs:=
 ⟨h.aJ.trans (hb.mono h.aJ.size),fun p hp=>⟨(h.cb p hp).1,(h.cb p hp).2.below hb⟩,h.hg,h.cg.below hb,h.rd.aV hb⟩
theorem NW.zero {W0 w:jh9} {g:Nat} {d:D} {vs:List jhk} (h:NW W0 none g w d vs):NW W0 (some w.heap.size) g (w.alloc (.cells #[.string ⟨#[]⟩,.string ⟨#[]⟩,.slice none 0 0,.slice none 0 0] 43)) d vs:=by refine ⟨h.aJ.alloc h.aJ.size _,fun p hp=>?_,⟨h.hg.1,fun e=>by have:=jf0 e;have:=h.cg.lt;omega⟩,h.cg.below ((je7 _ _).alloc (je8 _) _),Rd.keep (fun b hb hlt=>⟨⟨⟨hb.1.1,fun e=>by have:=jf0 e;omega⟩,hb.2⟩,jf2 w _ b hlt⟩) _ _ h.rd⟩;obtain rfl:=jf0 hp;exact ⟨h.aJ.size,CB.new _ jy w⟩
theorem xu.KU {W0 w:jh9} {q:Option Nat} {x:Nd} {c0 c1 c2 c3:jhk} (h:xu W0 q w x.d [c0,c1,c2,c3]):NW W0 q w.heap.size (w.alloc (.cells #[c0,c1,c2,c3] 43)) x.d [c0,c1,c2,c3]:=by have hb:jhj w.heap.size w (w.alloc (.cells #[c0,c1,c2,c3] 43)):=(je7 _ _).alloc (je8 _) _;have h2:=h.far hb;exact ⟨h2.aJ,h2.cb,⟨h.aJ.size,fun e=>by have:=(h.cb _ e.symm).2.lt;omega⟩,CB.new _ [c0,c1,c2,c3] w,Rd.keep (fun b hk hlt=>⟨⟨hk,by omega⟩,hb.block b hlt⟩) _ _ h.rd⟩
structure V5 (W0:jh9) (q g:Nat) (w:jh9) (d:D) (cs:List jhk) (cq:List jhk):Prop where
 aJ:jhj W0.heap.size W0 w
 hq:W0.heap.size<=q
 cq:CB 43 q cq w
 hg:W0.heap.size<=g/\g≠q
 cg:CB 43 g cs w
 rd:Rd (fun b=>W0.heap.size<=b/\b≠q/\b≠g) w d cs
theorem NW.put {W0 w:jh9} {g q:Nat} {d:D} {cs:List jhk} (h:NW W0 (some q) g w d cs) (c0 c1 c2 c3:jhk):V5 W0 q g (four w q c0 c1 c2 c3) d cs [c0,c1,c2,c3]:=by
 have h1:=(h.cb q rfl);have hgq:g≠q:=fun e=>h.hg.2 (by rw [e])
 exact ⟨tO h.aJ h1.1 _ _ _ _,h1.1,FR h1.2 _ _ _ _,⟨h.hg.1,hgq⟩,(gq w q c0 c1 c2 c3 g hgq).trans h.cg,Rd.keep (fun b hb hlt=>⟨⟨hb.1.1,fun e=>hb.1.2 (by rw [e]),hb.2⟩,gq w q c0 c1 c2 c3 b (fun e=>hb.1.2 (by rw [e]))⟩) _ _ h.rd⟩
theorem V5.far {W0 w w':jh9} {q g:Nat} {d:D} {cs cq:List jhk} (h:V5 W0 q g w d cs cq) (hb:jhj w.heap.size w w'):V5 W0 q g w' d cs cq:=
 ⟨h.aJ.trans (hb.mono h.aJ.size),h.hq,h.cq.below hb,h.hg,h.cg.below hb,h.rd.aV hb⟩
section
variable {T:TypeId} {k:Nat} {ds:List D} {rows:List (List jhk)} {v:jhk} {w:jh9}
theorem Ic {n:Nat} {ops:Array Oper} {o:Oper} {a:Act} {K:Act->jh9->Prop} {Q:Exit->Act->jh9->Prop} {E:Prop} (hgd:o.guard=none) (s x:Operand) (t:TypeId) (ho:o.op=.call { callee:=.builtin .append,args:=#[s,x],argTypes:=#[t,t] }) (i:TypeInfo) (z:jhk) (bytes:Nat) (ht:Tryz.prog.underlying t=some (.slice T)) (hi:Tryz.prog.info? T=some i) (hz:i.zero=some z) (hsize:i.size=k) (hby:i.bytes=bytes) (hzs:z.cells.size=k) (hsz:0<k) {B:Nat} {P:Nat->Prop} (hown:w.ownsRow B T k v ds.length rows.flatten) (hB:B<=w.heap.size) (hrd:aO P w ds rows) (hlen:∀ r∈rows,r.length=k) (hP:∀ b,P b->v.ownBlock≠some b) (d:D) (r:List jhk) (hx:Rd P w d r) (hr:r.length=k) (h1:∀ u∈r,u.oneCell'=true) (hdn:ds.length=n) (hn:n<=10000000) (kW:bytes<=1000) (hs:a.eval s=v) (hxe:a.eval x=.slice (some ⟨w.heap.size,0,none⟩) 1 1) (hK:∀ a' c' w',Rd (fun b=>P b\/v.ownBlock=some b\/w.heap.size<=b) w' (.sl k (ds++[d])) [.slice a' (n+1) c']->(w.alloc (.cells r.toArray T)).grownBy w' v.ownBlock->K (a.put o.dst (.slice a' (n+1) c')) w') : if Region.wanted o (yielded ops a.tmps)=true then Oper.wp Tryz.prog o a (w.alloc (.cells r.toArray T)) K Q else E:=by
 subst hdn;have hmul:(ds.length+1)*bytes<=140737488355328:=Nat.le_trans (Nat.mul_le_mul (show ds.length+1<=10000001 by omega) kW) (by omega);refine step_append_lies _ hgd s x t ho B T i z k bytes ht hi hz hsize hby hzs hsz v ds.length rows.flatten hs (hown.alloc _) ⟨w.heap.size,0,none⟩ 1 1 r hxe (by omega) (Ml w r T) h1 (by omega) (by unfold maxLen;omega) hmul (by simp;omega) (w.heap.size+1) (by simp) ?_;intro g cap w' hown hg hat _;have hh:∀ b,P b->b<w.heap.size->w'.heap[b]?=w.heap[b]?:=fun b hb hlt=>(hg.block b (by simp;omega) (fun e=>hP b hb e.symm)).trans (jf2 w _ b hlt)
 have Ce:aO (fun b=>P b\/v.ownBlock=some b\/w.heap.size<=b) w' (ds++[d]) (rows++[r]):=aO.app (aO.keep (fun b hb hlt=>⟨.inl hb,hh b hb hlt⟩) _ _ hrd) (aO.one (Rd.keep (fun b hb hlt=>⟨.inl hb,hh b hb hlt⟩) _ _ hx));have oO:∀ q∈rows++[r],q.length=k:=fun q hq=>(List.mem_append.1 hq).elim (hlen q) (fun h=>by rw [List.mem_singleton.1 h];exact hr)
 have hown2:w'.ownsRow B T k (.slice (some ⟨g,0,none⟩) (ds.length+1) cap) (ds++[d]).length (rows++[r]).flatten:=by rw [List.length_append,List.length_singleton,List.flatten_append];simpa using hown
 refine hK _ _ w' (Rd.ig hown2 Ce oO (fun g' hg'=>?_)) hg;have e1:g=g':=by simpa [Value.ownBlock] using hg'
 subst e1;exact hat.elim (fun e=>.inr (.inl e)) (fun e=>.inr (.inr (by omega)))
end
theorem ja0 {g b n c:Nat} (h:(Value.slice (some ⟨g,0,none⟩) n c).ownBlock=some b):b=g:=by
 have e:g=b:=by simpa [Value.ownBlock] using h
 exact e.symm
def zi (w1:jh9) (i:ByteArray) (rs:List ah) (v vi:jhk) (wr:jh9):Prop:=
 ∃ (k:Nat) (rows:List (List jhk)),k<=rs.length/\vi=.int .i64 k/\aI 43 4 (fun _=>False) wr.heap.size w1 (((rs.take k).map (jE wG i)).map Nd.d) rows v wr
theorem DV (k lv:Int) (i t d ti:ByteArray) (at_:At) (li:List aj) (ks:List ah) (vc vp vl vk:jhk) (w:jh9) (hR:jV (·<w.heap.size) w at_ li ks vc vp vl vk) (hT:YG i ks) : Calls Tryz.prog 160 #[.agg #[.int .i64 k,.int .i64 lv,.string i,.string t,.string d,.string ti,.string at_.id,vc,vp,vl,vk]] w (rQ w (cO i ks)):=by
 obtain ⟨ac,nc,cc,rfl⟩:=Rd.au hR.at_.cls
 obtain ⟨ap,np,cp,rfl⟩:=Rd.au hR.at_.aP
 obtain ⟨al,nl,cl,rfl⟩:=Rd.au hR.line;obtain ⟨ak,ck,hvk,hs⟩:=Rd.aC hR.kids;obtain ⟨nk,hnk⟩:∃ nk,nk=ks.length:=⟨_,rfl⟩;obtain rfl:vk=.slice ak nk ck:=by rw [hnk];simpa using hvk
 obtain ⟨x0,rs,rfl⟩:∃ x0 rs,ks=x0::rs:=by
  cases ks with
  | nil=>exact absurd rfl hT.ne
  | cons a b=>exact ⟨a,b,rfl⟩
 have hcap:nk<=ck:=by have:=hs.le;rw [jex] at this;omega
 have hmx:=hs.max;unfold maxLen at hmx;have V6:nk=rs.length+1:=by rw [hnk,List.length_cons]
 have Ux:nk<=900000:=by have:=hT.len;omega
 obtain ⟨S,W0,hS,hW0,z0,k0,k1,b0⟩:=tQ 30 w [.int .i64 k,.int .i64 lv,.string i,.string t,.string d,.string ti,.string at_.id,.slice ac nc cc,.slice ap np cp,.slice al nl cl,.slice ak nk ck];have hs2:kL (·<S) W0 11 ((x0::rs).map ah.d) ak ck:=by subst hS;exact hs.below b0
 have hT0:=hT.row x0 (List.mem_cons_self ..);have hTR:=fun r hr=>hT.row r (List.mem_cons_of_mem _ hr)
 obtain ⟨xk,Sb,xi,xt,xd,Sc,Sd,Yk,zV⟩:=x0;obtain ⟨ga,off,xvc,xvp,xvl,xvk,rfl,hok,hbl,hc,hR0⟩:=dV (k:=0) hs2 rfl;obtain ⟨xac,xnc,xcc,rfl⟩:=Rd.au hR0.at_.cls
 obtain ⟨xap,xnp,xcp,rfl⟩:=Rd.au hR0.at_.aP
 obtain ⟨xal,xnl,xcl,rfl⟩:=Rd.au hR0.line;obtain ⟨xak,xnk,xck,rfl⟩:=Rd.au hR0.kids;have hc:=show bM W0 ga off xk Sb xi xt xd Sc Sd.id (.slice xac xnc xcc) (.slice xap xnp xcp) (.slice xal xnl xcl) (.slice xak xnk xck) by simpa using hc
 have CX:Hid (∀ w':jh9,jhj W0.heap.size W0 w'->w'.cell? ⟨S,2,none⟩=some (.string i)/\w'.cell? ⟨S,10,none⟩=some (.slice (some ⟨ga,off,none⟩) nk ck)/\bM w' ga off xk Sb xi xt xd Sc Sd.id (.slice xac xnc xcc) (.slice xap xnp xcp) (.slice xal xnl xcl) (.slice xak xnk xck)):=fun w' hb=>
  ⟨(k0.below hb).cell 2 _ rfl,(k0.below hb).cell 10 _ rfl,hc.at2 (hb.block ga hbl)⟩
 have RC:Hid (∀ w':jh9,jhj W0.heap.size W0 w'->Calls Tryz.prog 201 #[.agg #[.int .i64 xk,.int .i64 Sb,.string xi,.string xt,.string xd,.string Sc,.string Sd.id,.slice xac xnc xcc,.slice xap xnp xcp,.slice xal xnl xcl,.slice xak xnk xck],.string ⟨#[116,104]⟩,.string i] w' (rQ w' (aN qw [] (aT Eu i.data.toList zV)))):=fun w' hb=>
  BO xk Sb xi xt xd Sc Sd Yk zV _ _ _ _ Eu i w' (jV.Bj hR0 (fun b (hb':b<S) hlt=>⟨by show b<w'.heap.size;have:=hb.size;omega,hb.block b (by omega)⟩)) hT0.1 hT0.2.1 hT0.2.2
 have HS2:=hid hs2;have F6:=hid hS;have HW0:=hid hW0;have Z0:=hid z0;have B0:=hid b0;have K1:=hid k1;have TQ:=hid hTR;have Bo:=hid V6;have jd5:0<nk:=by omega
 have jd6:(0:Int)<(nk:Int):=by omega
 clear hR hvk hs hs2 hS hW0 z0 k0 k1 b0 hc hT0 hTR hT hnk V6 hR0;go_enter Tryz.func160,Tryz.ntmps160;go_upto_region 1 with (fail)
 rw [<- F6.out];have hk0:=HW0.out;simp only [jy] at hk0;rw [<- hk0];clear hk0
 go_cut [3] (fun s3 wx=>∃ q g f,s3=.pointer (some ⟨q,0,none⟩)/\V5 W0 q g wx (aN dZ [] [aN qw [] (aT Eu i.data.toList zV)]).d [.string ⟨#[116,104,101,97,100]⟩,.string ⟨#[]⟩,.slice none 0 0,.slice (some ⟨f,0,none⟩) 1 1] [.string ⟨#[116,97,98,108,101]⟩,.string ⟨#[]⟩,.slice none 0 0,.slice (some ⟨g,0,none⟩) 1 1])
 case first=>
  refine gM 12 (fun w'=>jhj W0.heap.size W0 w') (by kernel_rfl) (je7 _ _).drew ?_;intro hH;refine uj 0 (v:=?_) rfl (by kernel_rfl) hH (by rfl) ?_ ?_;rotate_left
  ·(intro wv hSw;obtain ⟨e2,e10,c0,c1,c2,c3,c4,c5,c6,c7,c8,c9,c10⟩:=CX.out wv hSw;go_simp;try with_reducible rfl)
  try simp only [Act.put,je3,je4,je5]
  refine uj 1 (v:=?_) rfl (by kernel_rfl) hH (by rfl) ?_ ?_;rotate_left
  ·(intro wv hSw;obtain ⟨e2,e10,c0,c1,c2,c3,c4,c5,c6,c7,c8,c9,c10⟩:=CX.out wv hSw;go_simp;try with_reducible rfl)
  try simp only [Act.put,je3,je4,je5]
  refine uj 2 (v:=?_) rfl (by kernel_rfl) hH (by rfl) ?_ ?_;rotate_left
  ·(intro wv hSw;obtain ⟨e2,e10,c0,c1,c2,c3,c4,c5,c6,c7,c8,c9,c10⟩:=CX.out wv hSw;go_simp;try with_reducible rfl)
  try simp only [Act.put,je3,je4,je5]
  refine uj 3 (v:=?_) rfl (by kernel_rfl) hH (by rfl) ?_ ?_;rotate_left
  ·(intro wv hSw;obtain ⟨e2,e10,c0,c1,c2,c3,c4,c5,c6,c7,c8,c9,c10⟩:=CX.out wv hSw;go_simp;try with_reducible rfl)
  try simp only [Act.put,je3,je4,je5]
  refine uj 4 (v:=?_) rfl (by kernel_rfl) hH (by rfl) ?_ ?_;rotate_left
  ·(intro wv hSw;obtain ⟨e2,e10,c0,c1,c2,c3,c4,c5,c6,c7,c8,c9,c10⟩:=CX.out wv hSw;go_simp;try with_reducible rfl)
  try simp only [Act.put,je3,je4,je5]
  refine uj 5 (v:=?_) rfl (by kernel_rfl) hH (by rfl) ?_ ?_;rotate_left
  ·(intro wv hSw;obtain ⟨e2,e10,c0,c1,c2,c3,c4,c5,c6,c7,c8,c9,c10⟩:=CX.out wv hSw;go_simp;try with_reducible rfl)
  try simp only [Act.put,je3,je4,je5]
  obtain ⟨y0,hy0⟩:∃ y0,y0=W0.drew:=⟨_,rfl⟩;rw [<- hy0] at hH;rw [<- hy0];clear hy0;have V7:Hid (xu W0 none y0 (bX []) [.slice none 0 0]):=⟨hH,fun p hp=>by simp at hp,Rd.aB _ _ _⟩;refine Hw (i:=6) (j:=11) rfl rfl (by kernel_rfl) (fun KQ hK=>?_) (fun KQ hK=>?_)
  ·go_simp;go_at_call 201
   (with_reducible refine (RC.out y0 V7.out.aJ).mono ?_)
   rintro e y1 ⟨va,vk,he,hR,hb⟩;obtain ⟨aA,nA,cA,rfl⟩:=Rd.au hR.at_
   obtain ⟨aK,nK,cK,rfl⟩:=Rd.au hR.ks;have he:e=.returned (.agg #[.string qw,.string ⟨#[]⟩,.slice aA nA cA,.slice aK nK cK]):=he;subst he;have KV:=hid (V7.out.nd hb (Nd.gI qw ⟨#[]⟩ hR));clear hb hR;refine hK.out _ _ (fun _ _=>KV.out.aJ) (fun hH2=>?_);clear hK KQ hH;have hH:=hH2 (by decide) (by kernel_rfl);clear hH2;try simp only [Act.put,je3,je4,je5]
   clear V7;refine Hw (i:=7) (j:=11) rfl rfl (by kernel_rfl) (fun KQ hK=>?_) (fun KQ hK=>?_)
   ·go_simp;obtain ⟨y2,hN⟩:∃ y2,y2=y1.alloc (.cells #[.string qw,.string ⟨#[]⟩,.slice aA nA cA,.slice aK nK cK] 43):=⟨_,rfl⟩;obtain ⟨f,hf⟩:∃ f,f=y1.heap.size:=⟨_,rfl⟩;have Ev:=hid KV.out.lit;rw [<- hN,<- hf] at Ev;rw [<- hN,<- hf];clear hN hf;refine hK.out _ _ (fun _ _=>Ev.out.aJ) (fun hH2=>?_);clear hK KQ hH;have hH:=hH2 (by decide) (by kernel_rfl);clear hH2;try simp only [Act.put,je3,je4,je5]
    clear KV;refine Hw (i:=8) (j:=11) rfl rfl (by kernel_rfl) (fun KQ hK=>?_) (fun KQ hK=>?_)
    ·go_simp;go_at_call 57
     (with_reducible refine (iC ⟨#[116,104,101,97,100]⟩ none (some ⟨f,0,none⟩) 0 1 0 1 y2).mono ?_)
     rintro e y3 ⟨rfl,hb⟩;have rY:=hid (Ev.out.el hb ⟨#[116,104,101,97,100]⟩);clear hb;refine hK.out _ _ (fun _ _=>rY.out.aJ) (fun hH2=>?_);clear hK KQ hH;have hH:=hH2 (by decide) (by kernel_rfl);clear hH2;try simp only [Act.put,je3,je4,je5]
     clear Ev;refine Hw (i:=9) (j:=11) rfl rfl (by kernel_rfl) (fun KQ hK=>?_) (fun KQ hK=>?_)
     ·go_simp;obtain ⟨y4,hN⟩:∃ y4,y4=y3.alloc (.cells #[.string ⟨#[116,104,101,97,100]⟩,.string ⟨#[]⟩,.slice none 0 0,.slice (some ⟨f,0,none⟩) 1 1] 43):=⟨_,rfl⟩;obtain ⟨g,hf⟩:∃ g,g=y3.heap.size:=⟨_,rfl⟩;have uO:=hid rY.out.KU;rw [<- hN,<- hf] at uO;rw [<- hN,<- hf];clear hN hf;refine hK.out _ _ (fun _ _=>uO.out.aJ) (fun hH2=>?_);clear hK KQ hH;have hH:=hH2 (by decide) (by kernel_rfl);clear hH2;try simp only [Act.put,je3,je4,je5]
      clear rY;refine Hw (i:=10) (j:=11) rfl rfl (by kernel_rfl) (fun KQ hK=>?_) (fun KQ hK=>?_)
      ·go_simp;go_at_call 57
       (with_reducible refine (iC ⟨#[116,97,98,108,101]⟩ none (some ⟨g,0,none⟩) 0 1 0 1 y4).mono ?_)
       rintro e y5 ⟨rfl,hb⟩;have pQ:=hid (uO.out.far hb);clear hb;refine hK.out _ _ (fun _ _=>pQ.out.aJ) (fun hH2=>?_);clear hK KQ hH;have hH:=hH2 (by decide) (by kernel_rfl);clear hH2;try simp only [Act.put,je3,je4,je5]
       clear uO;refine fK (i:=11) rfl (by kernel_rfl) (fun KQ hK=>?_);go_simp;obtain ⟨y6,hN⟩:∃ y6,y6=y5.alloc (.cells #[.string ⟨#[]⟩,.string ⟨#[]⟩,.slice none 0 0,.slice none 0 0] 43):=⟨_,rfl⟩;obtain ⟨q,hf⟩:∃ q,q=y5.heap.size:=⟨_,rfl⟩;have rZ:=hid pQ.out.zero;rw [<- hN,<- hf] at rZ;rw [<- hN,<- hf];clear hN hf;refine hK.out _ _ (fun _ _=>rZ.out.aJ) (fun hH2=>?_);clear hK KQ hH;have hH:=hH2 (by decide) (by kernel_rfl);clear hH2;try simp only [Act.put,je3,je4,je5]
       clear pQ;refine fK (i:=12) rfl (by kernel_rfl) (fun KQ hK=>?_);obtain ⟨x0,x1,x2,x3,xf⟩:=mJ (rZ.out.cb q rfl).2;go_simp;have HJ:=hid (rZ.out.put (.string ⟨#[116,97,98,108,101]⟩) (.string ⟨#[]⟩) (.slice none 0 0) (.slice (some ⟨g,0,none⟩) 1 1));clear x0 x1 x2 x3 xf;refine hK.out _ _ (fun h=>absurd rfl h) (fun _=>?_);clear hK KQ hH;try simp only [Act.put,je3,je4,je5]
       refine F4 (by kernel_rfl) ?_ _;go_wp2
       go_meet
       exact ⟨q,g,f,rfl,HJ.out⟩
      ·go_simp;obtain ⟨y5,hN⟩:∃ y5,y5=y4.alloc (.cells #[.string ⟨#[]⟩,.string ⟨#[]⟩,.slice none 0 0,.slice none 0 0] 43):=⟨_,rfl⟩;obtain ⟨q,hf⟩:∃ q,q=y4.heap.size:=⟨_,rfl⟩;have pQ:=hid uO.out.zero;rw [<- hN,<- hf] at pQ;rw [<- hN,<- hf];clear hN hf;refine hK.out _ _ (fun _ _=>pQ.out.aJ) (fun hH2=>?_);clear hK KQ hH;have hH:=hH2 (by decide) (by kernel_rfl);clear hH2;try simp only [Act.put,je3,je4,je5]
       clear uO;refine fK (i:=10) rfl (by kernel_rfl) (fun KQ hK=>?_);go_simp;go_at_call 57
       (with_reducible refine (iC ⟨#[116,97,98,108,101]⟩ none (some ⟨g,0,none⟩) 0 1 0 1 y5).mono ?_)
       rintro e y6 ⟨rfl,hb⟩;have rZ:=hid (pQ.out.far hb);clear hb;refine hK.out _ _ (fun _ _=>rZ.out.aJ) (fun hH2=>?_);clear hK KQ hH;have hH:=hH2 (by decide) (by kernel_rfl);clear hH2;try simp only [Act.put,je3,je4,je5]
       clear pQ;refine fK (i:=12) rfl (by kernel_rfl) (fun KQ hK=>?_);obtain ⟨x0,x1,x2,x3,xf⟩:=mJ (rZ.out.cb q rfl).2;go_simp;have HJ:=hid (rZ.out.put (.string ⟨#[116,97,98,108,101]⟩) (.string ⟨#[]⟩) (.slice none 0 0) (.slice (some ⟨g,0,none⟩) 1 1));clear x0 x1 x2 x3 xf;refine hK.out _ _ (fun h=>absurd rfl h) (fun _=>?_);clear hK KQ hH;try simp only [Act.put,je3,je4,je5]
       refine F4 (by kernel_rfl) ?_ _;go_wp2
       go_meet
       exact ⟨q,g,f,rfl,HJ.out⟩
     ·go_simp;obtain ⟨y4,hN⟩:∃ y4,y4=y3.alloc (.cells #[.string ⟨#[]⟩,.string ⟨#[]⟩,.slice none 0 0,.slice none 0 0] 43):=⟨_,rfl⟩;obtain ⟨q,hf⟩:∃ q,q=y3.heap.size:=⟨_,rfl⟩;have uO:=hid rY.out.zero;rw [<- hN,<- hf] at uO;rw [<- hN,<- hf];clear hN hf;refine hK.out _ _ (fun _ _=>uO.out.aJ) (fun hH2=>?_);clear hK KQ hH;have hH:=hH2 (by decide) (by kernel_rfl);clear hH2;try simp only [Act.put,je3,je4,je5]
      clear rY;refine fK (i:=9) rfl (by kernel_rfl) (fun KQ hK=>?_);go_simp;obtain ⟨y5,hN⟩:∃ y5,y5=y4.alloc (.cells #[.string ⟨#[116,104,101,97,100]⟩,.string ⟨#[]⟩,.slice none 0 0,.slice (some ⟨f,0,none⟩) 1 1] 43):=⟨_,rfl⟩;obtain ⟨g,hf⟩:∃ g,g=y4.heap.size:=⟨_,rfl⟩;have pQ:=hid uO.out.KU;rw [<- hN,<- hf] at pQ;rw [<- hN,<- hf];clear hN hf;refine hK.out _ _ (fun _ _=>pQ.out.aJ) (fun hH2=>?_);clear hK KQ hH;have hH:=hH2 (by decide) (by kernel_rfl);clear hH2;try simp only [Act.put,je3,je4,je5]
      clear uO;refine fK (i:=10) rfl (by kernel_rfl) (fun KQ hK=>?_);go_simp;go_at_call 57
      (with_reducible refine (iC ⟨#[116,97,98,108,101]⟩ none (some ⟨g,0,none⟩) 0 1 0 1 y5).mono ?_)
      rintro e y6 ⟨rfl,hb⟩;have rZ:=hid (pQ.out.far hb);clear hb;refine hK.out _ _ (fun _ _=>rZ.out.aJ) (fun hH2=>?_);clear hK KQ hH;have hH:=hH2 (by decide) (by kernel_rfl);clear hH2;try simp only [Act.put,je3,je4,je5]
      clear pQ;refine fK (i:=12) rfl (by kernel_rfl) (fun KQ hK=>?_);obtain ⟨x0,x1,x2,x3,xf⟩:=mJ (rZ.out.cb q rfl).2;go_simp;have HJ:=hid (rZ.out.put (.string ⟨#[116,97,98,108,101]⟩) (.string ⟨#[]⟩) (.slice none 0 0) (.slice (some ⟨g,0,none⟩) 1 1));clear x0 x1 x2 x3 xf;refine hK.out _ _ (fun h=>absurd rfl h) (fun _=>?_);clear hK KQ hH;try simp only [Act.put,je3,je4,je5]
      refine F4 (by kernel_rfl) ?_ _;go_wp2
      go_meet
      exact ⟨q,g,f,rfl,HJ.out⟩
    ·go_simp;obtain ⟨y3,hN⟩:∃ y3,y3=y2.alloc (.cells #[.string ⟨#[]⟩,.string ⟨#[]⟩,.slice none 0 0,.slice none 0 0] 43):=⟨_,rfl⟩;obtain ⟨q,hf⟩:∃ q,q=y2.heap.size:=⟨_,rfl⟩;have rY:=hid Ev.out.zero;rw [<- hN,<- hf] at rY;rw [<- hN,<- hf];clear hN hf;refine hK.out _ _ (fun _ _=>rY.out.aJ) (fun hH2=>?_);clear hK KQ hH;have hH:=hH2 (by decide) (by kernel_rfl);clear hH2;try simp only [Act.put,je3,je4,je5]
     clear Ev;refine fK (i:=8) rfl (by kernel_rfl) (fun KQ hK=>?_);go_simp;go_at_call 57
     (with_reducible refine (iC ⟨#[116,104,101,97,100]⟩ none (some ⟨f,0,none⟩) 0 1 0 1 y3).mono ?_)
     rintro e y4 ⟨rfl,hb⟩;have uO:=hid (rY.out.el hb ⟨#[116,104,101,97,100]⟩);clear hb;refine hK.out _ _ (fun _ _=>uO.out.aJ) (fun hH2=>?_);clear hK KQ hH;have hH:=hH2 (by decide) (by kernel_rfl);clear hH2;try simp only [Act.put,je3,je4,je5]
     clear rY;refine fK (i:=9) rfl (by kernel_rfl) (fun KQ hK=>?_);go_simp;obtain ⟨y5,hN⟩:∃ y5,y5=y4.alloc (.cells #[.string ⟨#[116,104,101,97,100]⟩,.string ⟨#[]⟩,.slice none 0 0,.slice (some ⟨f,0,none⟩) 1 1] 43):=⟨_,rfl⟩;obtain ⟨g,hf⟩:∃ g,g=y4.heap.size:=⟨_,rfl⟩;have pQ:=hid uO.out.KU;rw [<- hN,<- hf] at pQ;rw [<- hN,<- hf];clear hN hf;refine hK.out _ _ (fun _ _=>pQ.out.aJ) (fun hH2=>?_);clear hK KQ hH;have hH:=hH2 (by decide) (by kernel_rfl);clear hH2;try simp only [Act.put,je3,je4,je5]
     clear uO;refine fK (i:=10) rfl (by kernel_rfl) (fun KQ hK=>?_);go_simp;go_at_call 57
     (with_reducible refine (iC ⟨#[116,97,98,108,101]⟩ none (some ⟨g,0,none⟩) 0 1 0 1 y5).mono ?_)
     rintro e y6 ⟨rfl,hb⟩;have rZ:=hid (pQ.out.far hb);clear hb;refine hK.out _ _ (fun _ _=>rZ.out.aJ) (fun hH2=>?_);clear hK KQ hH;have hH:=hH2 (by decide) (by kernel_rfl);clear hH2;try simp only [Act.put,je3,je4,je5]
     clear pQ;refine fK (i:=12) rfl (by kernel_rfl) (fun KQ hK=>?_);obtain ⟨x0,x1,x2,x3,xf⟩:=mJ (rZ.out.cb q rfl).2;go_simp;have HJ:=hid (rZ.out.put (.string ⟨#[116,97,98,108,101]⟩) (.string ⟨#[]⟩) (.slice none 0 0) (.slice (some ⟨g,0,none⟩) 1 1));clear x0 x1 x2 x3 xf;refine hK.out _ _ (fun h=>absurd rfl h) (fun _=>?_);clear hK KQ hH;try simp only [Act.put,je3,je4,je5]
     refine F4 (by kernel_rfl) ?_ _;go_wp2
     go_meet
     exact ⟨q,g,f,rfl,HJ.out⟩
   ·go_simp;obtain ⟨y2,hN⟩:∃ y2,y2=y1.alloc (.cells #[.string ⟨#[]⟩,.string ⟨#[]⟩,.slice none 0 0,.slice none 0 0] 43):=⟨_,rfl⟩;obtain ⟨q,hf⟩:∃ q,q=y1.heap.size:=⟨_,rfl⟩;have Ev:=hid KV.out.zero;rw [<- hN,<- hf] at Ev;rw [<- hN,<- hf];clear hN hf;refine hK.out _ _ (fun _ _=>Ev.out.aJ) (fun hH2=>?_);clear hK KQ hH;have hH:=hH2 (by decide) (by kernel_rfl);clear hH2;try simp only [Act.put,je3,je4,je5]
    clear KV;refine fK (i:=7) rfl (by kernel_rfl) (fun KQ hK=>?_);go_simp;obtain ⟨y3,hN⟩:∃ y3,y3=y2.alloc (.cells #[.string qw,.string ⟨#[]⟩,.slice aA nA cA,.slice aK nK cK] 43):=⟨_,rfl⟩;obtain ⟨f,hf⟩:∃ f,f=y2.heap.size:=⟨_,rfl⟩;have rY:=hid Ev.out.lit;rw [<- hN,<- hf] at rY;rw [<- hN,<- hf];clear hN hf;refine hK.out _ _ (fun _ _=>rY.out.aJ) (fun hH2=>?_);clear hK KQ hH;have hH:=hH2 (by decide) (by kernel_rfl);clear hH2;try simp only [Act.put,je3,je4,je5]
    clear Ev;refine fK (i:=8) rfl (by kernel_rfl) (fun KQ hK=>?_);go_simp;go_at_call 57
    (with_reducible refine (iC ⟨#[116,104,101,97,100]⟩ none (some ⟨f,0,none⟩) 0 1 0 1 y3).mono ?_)
    rintro e y4 ⟨rfl,hb⟩;have uO:=hid (rY.out.el hb ⟨#[116,104,101,97,100]⟩);clear hb;refine hK.out _ _ (fun _ _=>uO.out.aJ) (fun hH2=>?_);clear hK KQ hH;have hH:=hH2 (by decide) (by kernel_rfl);clear hH2;try simp only [Act.put,je3,je4,je5]
    clear rY;refine fK (i:=9) rfl (by kernel_rfl) (fun KQ hK=>?_);go_simp;obtain ⟨y5,hN⟩:∃ y5,y5=y4.alloc (.cells #[.string ⟨#[116,104,101,97,100]⟩,.string ⟨#[]⟩,.slice none 0 0,.slice (some ⟨f,0,none⟩) 1 1] 43):=⟨_,rfl⟩;obtain ⟨g,hf⟩:∃ g,g=y4.heap.size:=⟨_,rfl⟩;have pQ:=hid uO.out.KU;rw [<- hN,<- hf] at pQ;rw [<- hN,<- hf];clear hN hf;refine hK.out _ _ (fun _ _=>pQ.out.aJ) (fun hH2=>?_);clear hK KQ hH;have hH:=hH2 (by decide) (by kernel_rfl);clear hH2;try simp only [Act.put,je3,je4,je5]
    clear uO;refine fK (i:=10) rfl (by kernel_rfl) (fun KQ hK=>?_);go_simp;go_at_call 57
    (with_reducible refine (iC ⟨#[116,97,98,108,101]⟩ none (some ⟨g,0,none⟩) 0 1 0 1 y5).mono ?_)
    rintro e y6 ⟨rfl,hb⟩;have rZ:=hid (pQ.out.far hb);clear hb;refine hK.out _ _ (fun _ _=>rZ.out.aJ) (fun hH2=>?_);clear hK KQ hH;have hH:=hH2 (by decide) (by kernel_rfl);clear hH2;try simp only [Act.put,je3,je4,je5]
    clear pQ;refine fK (i:=12) rfl (by kernel_rfl) (fun KQ hK=>?_);obtain ⟨x0,x1,x2,x3,xf⟩:=mJ (rZ.out.cb q rfl).2;go_simp;have HJ:=hid (rZ.out.put (.string ⟨#[116,97,98,108,101]⟩) (.string ⟨#[]⟩) (.slice none 0 0) (.slice (some ⟨g,0,none⟩) 1 1));clear x0 x1 x2 x3 xf;refine hK.out _ _ (fun h=>absurd rfl h) (fun _=>?_);clear hK KQ hH;try simp only [Act.put,je3,je4,je5]
    refine F4 (by kernel_rfl) ?_ _;go_wp2
    go_meet
    exact ⟨q,g,f,rfl,HJ.out⟩
  ·go_simp;obtain ⟨y1,hN⟩:∃ y1,y1=y0.alloc (.cells #[.string ⟨#[]⟩,.string ⟨#[]⟩,.slice none 0 0,.slice none 0 0] 43):=⟨_,rfl⟩;obtain ⟨q,hf⟩:∃ q,q=y0.heap.size:=⟨_,rfl⟩;have KV:=hid V7.out.zero;rw [<- hN,<- hf] at KV;rw [<- hN,<- hf];clear hN hf;refine hK.out _ _ (fun _ _=>KV.out.aJ) (fun hH2=>?_);clear hK KQ hH;have hH:=hH2 (by decide) (by kernel_rfl);clear hH2;try simp only [Act.put,je3,je4,je5]
   clear V7;refine fK (i:=6) rfl (by kernel_rfl) (fun KQ hK=>?_);go_simp;go_at_call 201
   (with_reducible refine (RC.out y1 KV.out.aJ).mono ?_)
   rintro e y2 ⟨va,vk,he,hR,hb⟩;obtain ⟨aA,nA,cA,rfl⟩:=Rd.au hR.at_
   obtain ⟨aK,nK,cK,rfl⟩:=Rd.au hR.ks;have he:e=.returned (.agg #[.string qw,.string ⟨#[]⟩,.slice aA nA cA,.slice aK nK cK]):=he;subst he;have Ev:=hid (KV.out.nd hb (Nd.gI qw ⟨#[]⟩ hR));clear hb hR;refine hK.out _ _ (fun _ _=>Ev.out.aJ) (fun hH2=>?_);clear hK KQ hH;have hH:=hH2 (by decide) (by kernel_rfl);clear hH2;try simp only [Act.put,je3,je4,je5]
   clear KV;refine fK (i:=7) rfl (by kernel_rfl) (fun KQ hK=>?_);go_simp;obtain ⟨y3,hN⟩:∃ y3,y3=y2.alloc (.cells #[.string qw,.string ⟨#[]⟩,.slice aA nA cA,.slice aK nK cK] 43):=⟨_,rfl⟩;obtain ⟨f,hf⟩:∃ f,f=y2.heap.size:=⟨_,rfl⟩;have rY:=hid Ev.out.lit;rw [<- hN,<- hf] at rY;rw [<- hN,<- hf];clear hN hf;refine hK.out _ _ (fun _ _=>rY.out.aJ) (fun hH2=>?_);clear hK KQ hH;have hH:=hH2 (by decide) (by kernel_rfl);clear hH2;try simp only [Act.put,je3,je4,je5]
   clear Ev;refine fK (i:=8) rfl (by kernel_rfl) (fun KQ hK=>?_);go_simp;go_at_call 57
   (with_reducible refine (iC ⟨#[116,104,101,97,100]⟩ none (some ⟨f,0,none⟩) 0 1 0 1 y3).mono ?_)
   rintro e y4 ⟨rfl,hb⟩;have uO:=hid (rY.out.el hb ⟨#[116,104,101,97,100]⟩);clear hb;refine hK.out _ _ (fun _ _=>uO.out.aJ) (fun hH2=>?_);clear hK KQ hH;have hH:=hH2 (by decide) (by kernel_rfl);clear hH2;try simp only [Act.put,je3,je4,je5]
   clear rY;refine fK (i:=9) rfl (by kernel_rfl) (fun KQ hK=>?_);go_simp;obtain ⟨y5,hN⟩:∃ y5,y5=y4.alloc (.cells #[.string ⟨#[116,104,101,97,100]⟩,.string ⟨#[]⟩,.slice none 0 0,.slice (some ⟨f,0,none⟩) 1 1] 43):=⟨_,rfl⟩;obtain ⟨g,hf⟩:∃ g,g=y4.heap.size:=⟨_,rfl⟩;have pQ:=hid uO.out.KU;rw [<- hN,<- hf] at pQ;rw [<- hN,<- hf];clear hN hf;refine hK.out _ _ (fun _ _=>pQ.out.aJ) (fun hH2=>?_);clear hK KQ hH;have hH:=hH2 (by decide) (by kernel_rfl);clear hH2;try simp only [Act.put,je3,je4,je5]
   clear uO;refine fK (i:=10) rfl (by kernel_rfl) (fun KQ hK=>?_);go_simp;go_at_call 57
   (with_reducible refine (iC ⟨#[116,97,98,108,101]⟩ none (some ⟨g,0,none⟩) 0 1 0 1 y5).mono ?_)
   rintro e y6 ⟨rfl,hb⟩;have rZ:=hid (pQ.out.far hb);clear hb;refine hK.out _ _ (fun _ _=>rZ.out.aJ) (fun hH2=>?_);clear hK KQ hH;have hH:=hH2 (by decide) (by kernel_rfl);clear hH2;try simp only [Act.put,je3,je4,je5]
   clear pQ;refine fK (i:=12) rfl (by kernel_rfl) (fun KQ hK=>?_);obtain ⟨x0,x1,x2,x3,xf⟩:=mJ (rZ.out.cb q rfl).2;go_simp;have HJ:=hid (rZ.out.put (.string ⟨#[116,97,98,108,101]⟩) (.string ⟨#[]⟩) (.slice none 0 0) (.slice (some ⟨g,0,none⟩) 1 1));clear x0 x1 x2 x3 xf;refine hK.out _ _ (fun h=>absurd rfl h) (fun _=>?_);clear hK KQ hH;try simp only [Act.put,je3,je4,je5]
   refine F4 (by kernel_rfl) ?_ _;go_wp2
   go_meet
   exact ⟨q,g,f,rfl,HJ.out⟩
 case rest=>
  obtain ⟨q,g,f,rfl,hJ⟩:=hcut;obtain ⟨w1,hw1⟩:∃ w1:jh9,w1=wc:=⟨_,rfl⟩;subst hw1;have HJ:=hid hJ;obtain ⟨-,e10,-⟩:=CX.out w1 hJ.aJ;obtain ⟨iN,FJ,oq,ou,ow⟩:=info_parts mW;obtain ⟨nr,hnr⟩:∃ nr,nr=nk-1:=⟨_,rfl⟩;have Ew:Hid (nr=rs.length):=by have:=Bo.out;show _=_;omega
  have jd7:nr<=900000:=by omega
  have R0:Hid (zi w1 i rs (.slice none 0 0) (.int .i64 0) w1):=⟨0,[],Nat.zero_le _,rfl,aI.nil _ _ _ _⟩;have hZ0:W0.heap.size=S+2:=Z0.out;clear hJ;by_cases hck:ck=1
  case' pos=>
   have hnz:nr=0:=by omega
   subst hck;go_upto_region 4 with (fail)
   subst hnz;clear hnr e10
   go_loopw [4,22] (fun v vi wr=>zi w1 i rs v vi wr) (fun _ vi _=>0-(intOf vi).toNat)
   case atStart=>exact R0.out
   case' round=>
    clear R0;obtain ⟨j,rows,hj,rfl,hrow⟩:=hrel;obtain ⟨ds,hds⟩:∃ ds,ds=((rs.take j).map (jE wG i)).map Nd.d:=⟨_,rfl⟩;rw [<- hds] at hrow;obtain ⟨m,hm⟩:∃ m,m=ds.length:=⟨_,rfl⟩;have YH:m<=1000000:=by have h2:(rs.take j).length<=rs.length:=List.length_take_le' _ _;rw [hm,hds,jex,jex];have:=Ew.out;omega
    obtain ⟨av,cv,rfl,-,-⟩:=hrow.cap hm.symm;have HM:=hid hm.symm;have zR:=hid hds;have bC:=hid hrow;clear hrow hm hds;by_cases hlt:j<0
    ·exact absurd hlt (by omega)
    have hkl:j=0:=by have:=Ew.out;omega
  case' neg=>
   obtain ⟨ck2,V8⟩:∃ ck2,ck2=ck-1:=⟨_,rfl⟩;go_upto_region 4 with (fail)
   rw [<- hnr,<- V8];have hcc:nr<=ck2:=by omega
   clear hnr e10 V8 hck
   go_loopw [4,22] (fun v vi wr=>zi w1 i rs v vi wr) (fun _ vi _=>nr-(intOf vi).toNat)
   case atStart=>exact R0.out
   case' round=>
    clear R0;obtain ⟨j,rows,hj,rfl,hrow⟩:=hrel;obtain ⟨ds,hds⟩:∃ ds,ds=((rs.take j).map (jE wG i)).map Nd.d:=⟨_,rfl⟩;rw [<- hds] at hrow;obtain ⟨m,hm⟩:∃ m,m=ds.length:=⟨_,rfl⟩;have YH:m<=1000000:=by have h2:(rs.take j).length<=rs.length:=List.length_take_le' _ _;rw [hm,hds,jex,jex];have:=Ew.out;omega
    obtain ⟨av,cv,rfl,-,-⟩:=hrow.cap hm.symm;have HM:=hid hm.symm;have zR:=hid hds;have bC:=hid hrow;clear hrow hm hds;by_cases hlt:j<nr
    ·obtain ⟨y,hy⟩:∃ y,rs[j]?=some y:=⟨_,List.getElem?_eq_getElem (by have:=Ew.out;omega)⟩;have hsn:=oC (jE wG i) rs j y hy;have hw:=TQ.out y (List.mem_of_getElem? hy);obtain ⟨yk,FM,yi,yt,yd,FN,DY,Hg,Bq⟩:=y;have hw:Bq.length=i.size/\Bq.length<=1000000/\∀ c∈Bq,Uu c.kX:=hw;obtain ⟨g2,off2,vc,vp,vl,vk,hge,hok2,Sg,hc2,hR2⟩:=dV (k:=j+1) HS2.out (show (ah.mk xk Sb xi xt xd Sc Sd Yk zV::rs)[j+1]?=some (.mk yk FM yi yt yd FN DY Hg Bq) by simpa using hy);obtain ⟨rfl,rfl⟩:ga=g2/\off=off2:=by simpa using hge
     have hbr:jhj W0.heap.size W0 wr:=HJ.out.aJ.trans (bC.out.aJ.mono HJ.out.aJ.size);have hc2:bM W0 ga (off+11+j*11) yk FM yi yt yd FN DY.id vc vp vl vk:=by rw [show off+11+j*11=off+(j+1)*11 by omega];exact hc2
     obtain ⟨c0,c1,c2,c3,c4,c5,c6,c7,c8,c9,c10⟩:=hc2.at2 (w':=wr) (hbr.block ga hbl);obtain ⟨JA,JB,JC,rfl⟩:=Rd.au hR2.at_.cls
     obtain ⟨JD,JE,JF,rfl⟩:=Rd.au hR2.at_.aP
     obtain ⟨zS,zT,zU,rfl⟩:=Rd.au hR2.line;obtain ⟨JG,JH,JI,rfl⟩:=Rd.au hR2.kids;have RC2:Hid (∀ w':jh9,jhj W0.heap.size W0 w'->Calls Tryz.prog 201 #[.agg #[.int .i64 yk,.int .i64 FM,.string yi,.string yt,.string yd,.string FN,.string DY.id,.slice JA JB JC,.slice JD JE JF,.slice zS zT zU,.slice JG JH JI],.string ⟨#[116,100]⟩,.string i] w' (rQ w' (aN qw [] (aT wG i.data.toList Bq)))):=fun w' hb=>
      BO yk FM yi yt yd FN DY Hg Bq _ _ _ _ wG i w' (jV.Bj hR2 (fun b (hb':b<S) hlt=>⟨by show b<w'.heap.size;have:=hb.size;omega,hb.block b (by omega)⟩)) hw.1 hw.2.1 hw.2.2
     have pJ:=hid (show ((rs.take (j+1)).map (jE wG i)).map Nd.d=ds++[(aN qw [] (aT wG i.data.toList Bq)).d] by rw [hsn,List.map_append,zR.out];rfl);have HBR:=hid hbr;clear hy hsn hw hge hok2 Sg hc2 hR2 hbr;go_upto_region 6 with (fail)
     obtain ⟨p,hp⟩:∃ p,p=wr.heap.size:=⟨_,rfl⟩;obtain ⟨wA,gW⟩:∃ wA,wA=wr.alloc (.cells #[.int .i64 yk,.int .i64 FM,.string yi,.string yt,.string yd,.string FN,.string DY.id,.slice JA JB JC,.slice JD JE JF,.slice zS zT zU,.slice JG JH JI] 30):=⟨_,rfl⟩;have PA:CB 30 p [.int .i64 yk,.int .i64 FM,.string yi,.string yt,.string yd,.string FN,.string DY.id,.slice JA JB JC,.slice JD JE JF,.slice zS zT zU,.slice JG JH JI] wA:=by rw [gW,hp];exact CB.new _ _ wr
     have bA:jhj wr.heap.size wr wA:=by rw [gW];exact (je7 _ _).alloc (je8 _) _
     rw [<- gW,<- hp];have BA:=hid bA;have Tv:jhj W0.heap.size W0 wA:=HBR.out.trans (bA.mono HBR.out.size);obtain ⟨e2,-,-⟩:=CX.out wA Tv;have d0:=PA.cell 0 _ rfl;have d1:=PA.cell 1 _ rfl;have d2:=PA.cell 2 _ rfl;have d3:=PA.cell 3 _ rfl;have d4:=PA.cell 4 _ rfl;have d5:=PA.cell 5 _ rfl;have d6:=PA.cell 6 _ rfl;have d7:=PA.cell 7 _ rfl;have d8:=PA.cell 8 _ rfl;have d9:=PA.cell 9 _ rfl;have d10:=PA.cell 10 _ rfl;have Uz:=hid (RC2.out wA Tv);have hpw:wr.heap.size<=wA.heap.size:=bA.size;clear gW hp c0 c1 c2 c3 c4 c5 c6 c7 c8 c9 c10 PA bA Tv RC2;go_wp2_with fail
     (with_reducible refine Uz.out.mono ?_)
     rintro e w2 ⟨va,vk,he,hR2,hb2⟩;obtain ⟨aA,nA,cA,rfl⟩:=Rd.au hR2.at_
     obtain ⟨aK,nK,cK,rfl⟩:=Rd.au hR2.ks;have he:e=.returned (.agg #[.string qw,.string ⟨#[]⟩,.slice aA nA cA,.slice aK nK cK]):=he;subst he;have U2:=hid ((bC.out.below BA.out).below hb2);have XD:=hid ((Nd.gI qw ⟨#[]⟩ hR2).weaken (ok':=fun b=>False\/wr.heap.size<=b) (fun b hb=>.inr (Nat.le_trans hpw hb)));clear Uz hR2 hb2 d0 d1 d2 d3 d4 d5 d6 d7 d8 d9 d10 e2;go_wp2_with (at_builtin;refine iQ rfl _ _ 34 rfl iN _ 80 Tryz.underlying34 FJ oq ou ow rfl (by decide) U2.out (fun _=>False.elim) (aN qw [] (aT wG i.data.toList Bq)).d [.string qw,.string ⟨#[]⟩,.slice aA nA cA,.slice aK nK cK] XD.out rfl j3 HM.out (by omega) (by decide) rfl rfl ?_)
     intro a' c' w5 hrow hg5;have HF:Hid (zi w1 i rs (.slice a' (m+1) c') (.int .i64 ((j+1:Nat):Int)) w5):=⟨j+1,_,by have:=Ew.out;omega,rfl,by rw [pJ.out];exact hrow⟩;clear hrow hg5 XD U2 bC;go_wp2;go_roundw;case rel=>exact HF.out
     case measure=>simp [intOf];omega
    have hkl:j=nr:=by have:=Ew.out;omega
  all_goals
   have hjr:j=rs.length:=by have:=Ew.out;omega
   have HNV:Hid (Rd (w1.heap.size<=·) wr (bX (rs.map (jE wG i))) [.slice av m cv]):=by have h:=bC.out.eO;rw [zR.out,hjr,List.take_length] at h;exact h
   have MF:=hid (HJ.out.far bC.out.aJ);have QB:Hid (W0.heap.size<=w1.heap.size):=HJ.out.aJ.size;have Yj:Hid (q<w1.heap.size):=HJ.out.cq.lt;have HG1:Hid (g<w1.heap.size):=HJ.out.cg.lt;by_cases hm0:m=0
   ·have HE:Hid (rs=[]):=by
     have:=HM.out;rw [zR.out,hjr] at this;simp at this;exact List.length_eq_zero_iff.1 (by omega)
    subst hm0;have BL:=MF.out.aJ;have HQ:=hid MF.out.cq;have Vg:Hid (jA (W0.heap.size<=·) wr [] [aN dZ [] [aN qw [] (aT Eu i.data.toList zV)]] (.slice none 0 0) (.slice (some ⟨g,0,none⟩) 1 1)):=⟨Rd.aB _ _ _,Rd.ig (l:=[(aN dZ [] [aN qw [] (aT Eu i.data.toList zV)]).d]) (rows:=[[.string ⟨#[116,104,101,97,100]⟩,.string ⟨#[]⟩,.slice none 0 0,.slice (some ⟨f,0,none⟩) 1 1]]) (KT MF.out.cg rfl) (aO.one (MF.out.rd.weaken (fun b hb=>hb.1))) (by simp) (fun b hb=>by
     have e1:g=b:=by simpa [Value.ownBlock] using hb
     rw [<- e1];exact MF.out.hg.1)⟩
    have HTE:Hid (cO i (ah.mk xk Sb xi xt xd Sc Sd Yk zV::rs)=aN uP [] [aN dZ [] [aN qw [] (aT Eu i.data.toList zV)]]):=by show _=_;rw [HE.out];rfl
    obtain ⟨x0,x1,x2,x3,xf⟩:=mJ (K1.out.below BL);obtain ⟨y0,y1,y2,y3,-⟩:=Y5 HQ.out;go_upto_region 10 with (fail)
    obtain ⟨w9,dG⟩:∃ w9,w9=four wr (S+1) (.string ⟨#[116,97,98,108,101]⟩) (.string ⟨#[]⟩) (.slice none 0 0) (.slice (some ⟨g,0,none⟩) 1 1):=⟨_,rfl⟩;have hf:=fO ⟨#[116,97,98,108,101]⟩ ⟨#[]⟩ [] ([aN dZ [] [aN qw [] (aT Eu i.data.toList zV)]]) F6.out Z0.out B0.out K1.out BL Vg.out;rw [<- dG] at hf;have j5:=hid hf.1;have Ee:=hid hf.2;clear hf;have hw8:=dG;simp only [four] at hw8;clear dG;go_wp2;rw [<- hw8];have r0:=j5.out.cell 0 _ rfl;have r1:=j5.out.cell 1 _ rfl;have r2:=j5.out.cell 2 _ rfl;have r3:=j5.out.cell 3 _ rfl;exact bodyPost_ret (v:=.agg #[.string ⟨#[116,97,98,108,101]⟩,.string ⟨#[]⟩,.slice none 0 0,.slice (some ⟨g,0,none⟩) 1 1]) (by simp [results,Tryz.results160,go_sem,r0,r1,r2,r3]) rfl (by rw [HTE.out];exact Ee.out)
   ·have hm1:0<m:=by omega
    have HE:Hid (rs.isEmpty=false):=by
     show _=_;cases hrs:rs with
     | nil=>
      have:=HM.out;rw [zR.out,hrs] at this;simp at this;omega
     | cons _ _=>rfl
    have S0:wr.drew.cell? ⟨q,3,none⟩=some (.slice (some ⟨g,0,none⟩) 1 1):=MF.out.cq.cell 3 _ rfl;have HTE:Hid (cO i (ah.mk xk Sb xi xt xd Sc Sd Yk zV::rs)=aN uP [] [aN dZ [] [aN qw [] (aT Eu i.data.toList zV)],aN ny [] (rs.map (jE wG i))]):=by show aN uP [] (aN dZ [] [aN qw [] (aT Eu i.data.toList zV)]::if rs.isEmpty=true then [] else [aN ny [] (rs.map (jE wG i))])=_;rw [HE.out];rfl
    clear hkl hjr hm0;go_upto_region 9 with (fail)
    refine lC 7 (fun w'=>w'.cell? ⟨q,3,none⟩=some (.slice (some ⟨g,0,none⟩) 1 1)) (by kernel_rfl) S0 ?_;intro hH;refine Mt 0 (v:=?_) rfl (by kernel_rfl) hH (by rfl) ?_ ?_;rotate_left
    ·(intro wv hSw;(try dsimp only at hSw);go_simp;try with_reducible rfl)
    try simp only [Act.put,je3,je4,je5]
    refine Mt 1 (v:=?_) rfl (by kernel_rfl) hH (by rfl) ?_ ?_;rotate_left
    ·(intro wv hSw;(try dsimp only at hSw);go_simp;try with_reducible rfl)
    try simp only [Act.put,je3,je4,je5]
    refine Mt 2 (v:=?_) rfl (by kernel_rfl) hH (by rfl) ?_ ?_;rotate_left
    ·(intro wv hSw;(try dsimp only at hSw);go_simp;try with_reducible rfl)
    try simp only [Act.put,je3,je4,je5]
    refine D9 (i:=3) rfl (by kernel_rfl) (fun KQ hK=>?_);go_simp;go_at_call 57
    (with_reducible refine (iC ⟨#[116,98,111,100,121]⟩ none av 0 m 0 cv _).mono ?_)
    rintro e w3 ⟨rfl,b3⟩;have B3:jhj wr.heap.size wr w3:=((je7 _ _).drew).trans b3;have Gg:=hid (MF.out.far B3);have S3:w3.cell? ⟨q,3,none⟩=some (.slice (some ⟨g,0,none⟩) 1 1):=Gg.out.cq.cell 3 _ rfl;have XD:=hid (show Rd (fun b=>w1.heap.size<=b) w3 (aN ⟨#[116,98,111,100,121]⟩ [] (rs.map (jE wG i))).d [.string ⟨#[116,98,111,100,121]⟩,.string ⟨#[]⟩,.slice none 0 0,.slice av m cv] from Nd.gI ⟨#[116,98,111,100,121]⟩ ⟨#[]⟩ ⟨Rd.aB _ _ _,HNV.out.aV B3⟩);have HB3:=hid B3;clear b3 B3 S0;refine hK.out _ _ (fun _=>S3) (fun hH2=>?_);clear hK KQ hH;have hH:=hH2 (by decide);clear hH2;try simp only [Act.put,je3,je4,je5]
    refine D9 (i:=4) rfl (by kernel_rfl) (fun KQ hK=>?_);go_simp;refine hK.out _ _ (fun _=>past S3 _) (fun hH2=>?_);clear hK KQ hH;have hH:=hH2 (by decide);clear hH2;try simp only [Act.put,je3,je4,je5]
    refine D9 (i:=5) rfl (by kernel_rfl) (fun KQ hK=>?_);refine Ic (n:=1) rfl (.tmp 38) (.tmp 41) 34 rfl iN _ 80 Tryz.underlying34 FJ oq ou ow rfl (by decide) (ds:=[(aN dZ [] [aN qw [] (aT Eu i.data.toList zV)]).d]) (rows:=[[.string ⟨#[116,104,101,97,100]⟩,.string ⟨#[]⟩,.slice none 0 0,.slice (some ⟨f,0,none⟩) 1 1]]) (v:=.slice (some ⟨g,0,none⟩) 1 1) (P:=fun b=>W0.heap.size<=b/\b≠q/\b≠g) (KT Gg.out.cg rfl) (Nat.le_of_lt Gg.out.cg.lt) (aO.one Gg.out.rd) (by simp) (fun b hb e=>hb.2.2 (ja0 e)) (aN ⟨#[116,98,111,100,121]⟩ [] (rs.map (jE wG i))).d [.string ⟨#[116,98,111,100,121]⟩,.string ⟨#[]⟩,.slice none 0 0,.slice av m cv] (XD.out.weaken (fun b hb=>⟨Nat.le_trans QB.out hb,by have:=Yj.out;omega,by have:=HG1.out;omega⟩)) rfl j3 rfl (by decide) (by decide) rfl rfl ?_;intro a5 c5 w5 Si hg5;have hgb:(Value.slice (some ⟨g,0,none⟩) 1 1).ownBlock=some g:=rfl;rw [hgb] at hg5 Si;have q5:CB 43 q [.string ⟨#[116,97,98,108,101]⟩,.string ⟨#[]⟩,.slice none 0 0,.slice (some ⟨g,0,none⟩) 1 1] w5:=(hg5.block q (by simp;have:=Gg.out.cq.lt;omega) (fun e=>Gg.out.hg.2 (jf0 e).symm)).trans ((jf2 w3 _ q Gg.out.cq.lt).trans Gg.out.cq);have S5:w5.cell? ⟨q,3,none⟩=some (.slice (some ⟨g,0,none⟩) 1 1):=q5.cell 3 _ rfl;have fz:=yM q5;have b35:jhj W0.heap.size w3 w5:=((je7 _ w3).alloc Gg.out.aJ.size _).grown hg5 (by simp;have:=Gg.out.aJ.size;omega) (fun x hx=>by have:=jf0 hx;have:=Gg.out.hg.1;omega);have Jq:=hid (Gg.out.aJ.trans b35);have V9:=hid Si;have XF:=hid q5;have hq3:q<w3.heap.size:=Gg.out.cq.lt;clear Si hg5 hgb b35 XD q5;refine hK.out _ _ (fun _=>S5) (fun hH2=>?_);clear hK KQ hH;have hH:=hH2 (by decide);clear hH2;try simp only [Act.put,je3,je4,je5]
    refine D9 (i:=6) rfl (by kernel_rfl) (fun KQ hK=>?_);go_simp;refine hK.out _ _ (fun _=>S5) (fun hH2=>?_);clear hK KQ hH;have hH:=hH2 (by decide);clear hH2;try simp only [Act.put,je3,je4,je5]
    refine D9 (i:=7) rfl (by kernel_rfl) (fun KQ hK=>?_);go_simp;refine hK.out _ _ (fun h=>absurd rfl h) (fun _=>?_);clear hK KQ;refine lD (by kernel_rfl) ?_ _;obtain ⟨w6,j4⟩:∃ w6,w6=w5.setCell ⟨q,3,none⟩ (.slice a5 (1+1) c5):=⟨_,rfl⟩;try simp only [Nat.reduceAdd] at j4
    rw [<- j4];have HQ:Hid (CB 43 q [.string ⟨#[116,97,98,108,101]⟩,.string ⟨#[]⟩,.slice none 0 0,.slice a5 2 c5] w6):=by rw [j4];exact xD XF.out 3 _
    have BL:jhj W0.heap.size W0 w6:=by rw [j4];exact Jq.out.setCell MF.out.hq _
    have Vg:Hid (jA (W0.heap.size<=·) w6 [] [aN dZ [] [aN qw [] (aT Eu i.data.toList zV)],aN ny [] (rs.map (jE wG i))] (.slice none 0 0) (.slice a5 2 c5)):=⟨Rd.aB _ _ _,by
     rw [j4];refine Rd.keep (fun b hb hlt=>⟨?_,Below.heap_setCell w5 ⟨q,3,none⟩ _ b ?_⟩) _ _ V9.out
     ·rcases hb with hb | hb | hb
      ·exact hb.1
      ·have:=jf0 hb;have:=MF.out.hg.1;omega
      ·have:=Gg.out.aJ.size;omega
     ·show b≠q;rcases hb with hb | hb | hb
      ·exact hb.2.1
      ·have:=jf0 hb;have:=MF.out.hg.2;omega
      ·omega⟩
    clear j4 V9 S3 S5 fz hH;obtain ⟨x0,x1,x2,x3,xf⟩:=mJ (K1.out.below BL);obtain ⟨y0,y1,y2,y3,-⟩:=Y5 HQ.out;go_upto_region 10 with (fail)
    obtain ⟨w9,dG⟩:∃ w9,w9=four w6 (S+1) (.string ⟨#[116,97,98,108,101]⟩) (.string ⟨#[]⟩) (.slice none 0 0) (.slice a5 2 c5):=⟨_,rfl⟩;have hf:=fO ⟨#[116,97,98,108,101]⟩ ⟨#[]⟩ [] ([aN dZ [] [aN qw [] (aT Eu i.data.toList zV)],aN ny [] (rs.map (jE wG i))]) F6.out Z0.out B0.out K1.out BL Vg.out;rw [<- dG] at hf;have j5:=hid hf.1;have Ee:=hid hf.2;clear hf;have hw8:=dG;simp only [four] at hw8;clear dG;go_wp2;rw [<- hw8];have r0:=j5.out.cell 0 _ rfl;have r1:=j5.out.cell 1 _ rfl;have r2:=j5.out.cell 2 _ rfl;have r3:=j5.out.cell 3 _ rfl;exact bodyPost_ret (v:=.agg #[.string ⟨#[116,97,98,108,101]⟩,.string ⟨#[]⟩,.slice none 0 0,.slice a5 2 c5]) (by simp [results,Tryz.results160,go_sem,r0,r1,r2,r3]) rfl (by rw [HTE.out];exact Ee.out)
open Go.RowKit
theorem F9 {ok:Nat->Prop} {w:jh9} {x y:Nd} {c0 c1 c2 c3 d0 d1 d2 d3:jhk} (hm:ok w.heap.size) (hx:Rd ok w x.d [c0,c1,c2,c3]) (hy:Rd ok w y.d [d0,d1,d2,d3]) : Rd ok (w.alloc (.cells #[c0,c1,c2,c3,d0,d1,d2,d3] 43)) (bX [x,y]) [.slice (some ⟨w.heap.size,0,none⟩) 2 2]:=by
 have hb:jhj w.heap.size w (w.alloc (.cells #[c0,c1,c2,c3,d0,d1,d2,d3] 43)):=(je7 _ _).alloc (je8 _) _;have k:CB 43 w.heap.size [c0,c1,c2,c3,d0,d1,d2,d3] (w.alloc (.cells #[c0,c1,c2,c3,d0,d1,d2,d3] 43)):=CB.new _ _ w;have kp:∀ {d:D} {cs:List jhk},Rd ok w d cs->Rd ok (w.alloc (.cells #[c0,c1,c2,c3,d0,d1,d2,d3] 43)) d cs:=fun h=>Rd.keep (fun b hb' hlt=>⟨hb',hb.block b hlt⟩) _ _ h
 exact Rd.slB (l:=[x,y].map Nd.d) (rows:=[[c0,c1,c2,c3],[d0,d1,d2,d3]]) (by simp) (by unfold maxLen;decide) (aO.cons (kp hx) (aO.one (kp hy))) (by simp) hm k.lt (fun j u hu=>k.cell j u (by simpa using hu))
def RF (w:jh9) (E:Nat) (x:Nd) (e:Ending) (w':jh9):Prop:=
 ∃ va vk,e=.returned (.tuple #[.agg #[.string x.nm,.string x.tx,va,vk],.int .i64 (E:Int)])/\jA (w.heap.size<=·) w' x.at_ x.ks va vk/\jhj w.heap.size w w'
end Go.Proofs.YtclikfjalmcoaaaGreatDoor

