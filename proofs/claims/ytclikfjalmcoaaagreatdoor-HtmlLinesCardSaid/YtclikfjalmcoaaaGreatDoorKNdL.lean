/- Contract of html.table: the node of a table. A literal of two nodes; what Page leaves. -/
import Derived.Test.YtclikfjalmcoaaaGreatDoorKHtR
set_option maxHeartbeats 8000000
set_option maxRecDepth 100000
open Go.Lib (hid)
namespace Go.Proofs.YtclikfjalmcoaaaGreatDoor
open List renaming setIfInBounds_toArray->jgq,set_cons_zero->jgx,set_cons_succ->jgz,length_map->jh7
open Go.RowKit.Below renaming refl->jh1,heap_alloc->jhk
open Nat renaming le_refl->jh2,le_trans->jh3
open Option.some renaming inj->jh9
open Go renaming World->jk3,Value->jk5
open Go.RowKit renaming Below->jk4
open Go.RowKit
set_option linter.unusedVariables false
set_option linter.unusedSimpArgs false
structure TbW (i:ByteArray) (ks:List au):Prop where
 ne:ks≠[]
 len:ks.length<=900000
 row:∀ r∈ks,r.kids.length=i.size/\r.kids.length<=1000000/\∀ c∈r.kids,Yx c.nX
theorem je.EK {ok ok':Nat->Prop} {w w':jk3} {a:At} {li:List aj} {ks:List au} {vc vp vl vk:jk5} (h:je ok w a li ks vc vp vl vk) (hs:wM ok ok' w w'):je ok' w' a li ks vc vp vl vk:=
 ⟨⟨Rd.keep hs _ _ h.at_.cls,Rd.keep hs _ _ h.at_.aF⟩,Rd.keep hs _ _ h.line,Rd.keep hs _ _ h.kids⟩
structure Ar (W0:jk3) (q:Option Nat) (w:jk3) (d:D) (vs:List jk5):Prop where
 aL:jk4 W0.heap.size W0 w
 cb:∀ p,q=some p->W0.heap.size<=p/\CB 43 p iY w
 rd:Rd (fun b=>W0.heap.size<=b/\some b≠q) w d vs
theorem Ar.far {W0 w w':jk3} {q:Option Nat} {d:D} {vs:List jk5} (h:Ar W0 q w d vs) (hb:jk4 w.heap.size w w'):Ar W0 q w' d vs:=
 ⟨h.aL.trans (hb.mono h.aL.size),fun p hp=>⟨(h.cb p hp).1,(h.cb p hp).2.below hb⟩,h.rd.aW hb⟩
theorem Ar.nd {W0 w w':jk3} {q:Option Nat} {d d':D} {vs vs':List jk5} (h:Ar W0 q w d vs) (hb:jk4 w.heap.size w w') (hr:Rd (w.heap.size<=·) w' d' vs'):Ar W0 q w' d' vs':=
 ⟨(h.far hb).aL,(h.far hb).cb,hr.weaken (fun b hk=>⟨jh3 h.aL.size hk,fun e=>by have:=(h.cb b e.symm).2.lt;omega⟩)⟩
theorem Ar.zero {W0 w:jk3} {d:D} {vs:List jk5} (h:Ar W0 none w d vs):Ar W0 (some w.heap.size) (w.alloc (.cells #[.string ⟨#[]⟩,.string ⟨#[]⟩,.slice none 0 0,.slice none 0 0] 43)) d vs:=by refine ⟨h.aL.alloc h.aL.size _,fun p hp=>?_,Rd.keep (fun b hb hlt=>⟨⟨hb.1,fun e=>by have:=jh9 e;omega⟩,jhk w _ b hlt⟩) _ _ h.rd⟩;obtain rfl:=jh9 hp;exact ⟨h.aL.size,CB.new _ iY w⟩
theorem Fh {w:jk3} {g:Nat} {cs:List jk5} (h:CB 43 g cs w) (hl:cs.length=4):w.ownsRow g 43 4 (.slice (some ⟨g,0,none⟩) 1 1) 1 ([cs]:List (List jk5)).flatten:=by
 refine ⟨by simp [hl],.inr ⟨g,1,cs.toArray,rfl,jh2 _,h,by simp,by unfold maxLen;omega,?_,?_⟩⟩
 ·simp [hl]
 ·rw [<- hl];simp
theorem Ar.lit {W0 w:jk3} {q:Option Nat} {x:Nd} {c0 c1 c2 c3:jk5} (h:Ar W0 q w x.d [c0,c1,c2,c3]):Ar W0 q (w.alloc (.cells #[c0,c1,c2,c3] 43)) (bS [x]) [.slice (some ⟨w.heap.size,0,none⟩) 1 1]:=by
 have hb:jk4 w.heap.size w (w.alloc (.cells #[c0,c1,c2,c3] 43)):=(jh1 _ _).alloc (jh2 _) _;have h2:=h.far hb;refine ⟨h2.aL,h2.cb,Rd.ig (l:=[x.d]) (rows:=[[c0,c1,c2,c3]]) (Fh (CB.new _ [c0,c1,c2,c3] w) rfl) (aP.one h2.rd) (by simp) (fun g hg=>?_)⟩;have e1:w.heap.size=g:=by simpa [Value.ownBlock] using hg
 exact ⟨by rw [<- e1];exact h.aL.size,fun e=>by have:=(h.cb g e.symm).2.lt;omega⟩
theorem Ar.el {W0 w w':jk3} {q:Option Nat} {ks:List Nd} {v:jk5} (h:Ar W0 q w (bS ks) [v]) (hb:jk4 w.heap.size w w') (n:ByteArray):Ar W0 q w' (aN n [] ks).d [.string n,.string ⟨#[]⟩,.slice none 0 0,v]:=
 ⟨(h.far hb).aL,(h.far hb).cb,Nd.fJ n ⟨#[]⟩ ⟨Rd.ay _ _ _,(h.far hb).rd⟩⟩
structure RA (W0:jk3) (q:Option Nat) (g:Nat) (w:jk3) (d:D) (cs:List jk5):Prop where
 aL:jk4 W0.heap.size W0 w
 cb:∀ p,q=some p->W0.heap.size<=p/\CB 43 p iY w
 hg:W0.heap.size<=g/\some g≠q
 cg:CB 43 g cs w
 rd:Rd (fun b=>(W0.heap.size<=b/\some b≠q)/\b≠g) w d cs
theorem RA.far {W0 w w':jk3} {q:Option Nat} {g:Nat} {d:D} {vs:List jk5} (h:RA W0 q g w d vs) (hb:jk4 w.heap.size w w'):RA W0 q g w' d vs:=
 ⟨h.aL.trans (hb.mono h.aL.size),fun p hp=>⟨(h.cb p hp).1,(h.cb p hp).2.below hb⟩,h.hg,h.cg.below hb,h.rd.aW hb⟩
theorem RA.zero {W0 w:jk3} {g:Nat} {d:D} {vs:List jk5} (h:RA W0 none g w d vs):RA W0 (some w.heap.size) g (w.alloc (.cells #[.string ⟨#[]⟩,.string ⟨#[]⟩,.slice none 0 0,.slice none 0 0] 43)) d vs:=by refine ⟨h.aL.alloc h.aL.size _,fun p hp=>?_,⟨h.hg.1,fun e=>by have:=jh9 e;have:=h.cg.lt;omega⟩,h.cg.below ((jh1 _ _).alloc (jh2 _) _),Rd.keep (fun b hb hlt=>⟨⟨⟨hb.1.1,fun e=>by have:=jh9 e;omega⟩,hb.2⟩,jhk w _ b hlt⟩) _ _ h.rd⟩;obtain rfl:=jh9 hp;exact ⟨h.aL.size,CB.new _ iY w⟩
theorem Ar.Ot {W0 w:jk3} {q:Option Nat} {x:Nd} {c0 c1 c2 c3:jk5} (h:Ar W0 q w x.d [c0,c1,c2,c3]):RA W0 q w.heap.size (w.alloc (.cells #[c0,c1,c2,c3] 43)) x.d [c0,c1,c2,c3]:=by have hb:jk4 w.heap.size w (w.alloc (.cells #[c0,c1,c2,c3] 43)):=(jh1 _ _).alloc (jh2 _) _;have h2:=h.far hb;exact ⟨h2.aL,h2.cb,⟨h.aL.size,fun e=>by have:=(h.cb _ e.symm).2.lt;omega⟩,CB.new _ [c0,c1,c2,c3] w,Rd.keep (fun b hk hlt=>⟨⟨hk,by omega⟩,hb.block b hlt⟩) _ _ h.rd⟩
structure Zp (W0:jk3) (q g:Nat) (w:jk3) (d:D) (cs:List jk5) (cq:List jk5):Prop where
 aL:jk4 W0.heap.size W0 w
 hq:W0.heap.size<=q
 cq:CB 43 q cq w
 hg:W0.heap.size<=g/\g≠q
 cg:CB 43 g cs w
 rd:Rd (fun b=>W0.heap.size<=b/\b≠q/\b≠g) w d cs
theorem RA.put {W0 w:jk3} {g q:Nat} {d:D} {cs:List jk5} (h:RA W0 (some q) g w d cs) (c0 c1 c2 c3:jk5):Zp W0 q g (bU w q c0 c1 c2 c3) d cs [c0,c1,c2,c3]:=by
 have h1:=(h.cb q rfl);have hgq:g≠q:=fun e=>h.hg.2 (by rw [e])
 exact ⟨wV h.aL h1.1 _ _ _ _,h1.1,JG h1.2 _ _ _ _,⟨h.hg.1,hgq⟩,(oK w q c0 c1 c2 c3 g hgq).trans h.cg,Rd.keep (fun b hb hlt=>⟨⟨hb.1.1,fun e=>hb.1.2 (by rw [e]),hb.2⟩,oK w q c0 c1 c2 c3 b (fun e=>hb.1.2 (by rw [e]))⟩) _ _ h.rd⟩
theorem Zp.far {W0 w w':jk3} {q g:Nat} {d:D} {cs cq:List jk5} (h:Zp W0 q g w d cs cq) (hb:jk4 w.heap.size w w'):Zp W0 q g w' d cs cq:=
 ⟨h.aL.trans (hb.mono h.aL.size),h.hq,h.cq.below hb,h.hg,h.cg.below hb,h.rd.aW hb⟩
section
variable {T:TypeId} {k:Nat} {ds:List D} {rows:List (List jk5)} {v:jk5} {w:jk3}
theorem AU {n:Nat} {ops:Array Oper} {o:Oper} {a:Act} {K:Act->jk3->Prop} {Q:Exit->Act->jk3->Prop} {E:Prop} (hgd:o.guard=none) (s x:Operand) (t:TypeId) (ho:o.op=.call { callee:=.builtin .append,args:=#[s,x],argTypes:=#[t,t] }) (i:TypeInfo) (z:jk5) (bytes:Nat) (ht:Tryz.prog.underlying t=some (.slice T)) (hi:Tryz.prog.info? T=some i) (hz:i.zero=some z) (hsize:i.size=k) (hby:i.bytes=bytes) (hzs:z.cells.size=k) (hsz:0<k) {B:Nat} {P:Nat->Prop} (hown:w.ownsRow B T k v ds.length rows.flatten) (hB:B<=w.heap.size) (hrd:aP P w ds rows) (hlen:∀ r∈rows,r.length=k) (hP:∀ b,P b->v.ownBlock≠some b) (d:D) (r:List jk5) (hx:Rd P w d r) (hr:r.length=k) (h1:∀ u∈r,u.oneCell'=true) (hdn:ds.length=n) (hn:n<=10000000) (kS:bytes<=1000) (hs:a.eval s=v) (hxe:a.eval x=.slice (some ⟨w.heap.size,0,none⟩) 1 1) (hK:∀ a' c' w',Rd (fun b=>P b\/v.ownBlock=some b\/w.heap.size<=b) w' (.sl k (ds++[d])) [.slice a' (n+1) c']->(w.alloc (.cells r.toArray T)).grownBy w' v.ownBlock->K (a.put o.dst (.slice a' (n+1) c')) w') : if Region.wanted o (yielded ops a.tmps)=true then Oper.wp Tryz.prog o a (w.alloc (.cells r.toArray T)) K Q else E:=by
 subst hdn;have hmul:(ds.length+1)*bytes<=140737488355328:=jh3 (Nat.mul_le_mul (show ds.length+1<=10000001 by omega) kS) (by omega);refine step_append_lies _ hgd s x t ho B T i z k bytes ht hi hz hsize hby hzs hsz v ds.length rows.flatten hs (hown.alloc _) ⟨w.heap.size,0,none⟩ 1 1 r hxe (by omega) (GN w r T) h1 (by omega) (by unfold maxLen;omega) hmul (by simp;omega) (w.heap.size+1) (by simp) ?_;intro g cap w' hown hg hat _;have hh:∀ b,P b->b<w.heap.size->w'.heap[b]?=w.heap[b]?:=fun b hb hlt=>(hg.block b (by simp;omega) (fun e=>hP b hb e.symm)).trans (jhk w _ b hlt)
 have EY:aP (fun b=>P b\/v.ownBlock=some b\/w.heap.size<=b) w' (ds++[d]) (rows++[r]):=aP.app (aP.keep (fun b hb hlt=>⟨.inl hb,hh b hb hlt⟩) _ _ hrd) (aP.one (Rd.keep (fun b hb hlt=>⟨.inl hb,hh b hb hlt⟩) _ _ hx));have rF:∀ q∈rows++[r],q.length=k:=fun q hq=>(List.mem_append.1 hq).elim (hlen q) (fun h=>by rw [List.mem_singleton.1 h];exact hr)
 have hown2:w'.ownsRow B T k (.slice (some ⟨g,0,none⟩) (ds.length+1) cap) (ds++[d]).length (rows++[r]).flatten:=by rw [List.length_append,List.length_singleton,List.flatten_append];simpa using hown
 refine hK _ _ w' (Rd.ig hown2 EY rF (fun g' hg'=>?_)) hg;have e1:g=g':=by simpa [Value.ownBlock] using hg'
 subst e1;exact hat.elim (fun e=>.inr (.inl e)) (fun e=>.inr (.inr (by omega)))
end
theorem Zq {g b n c:Nat} (h:(Value.slice (some ⟨g,0,none⟩) n c).ownBlock=some b):b=g:=by
 have e:g=b:=by simpa [Value.ownBlock] using h
 exact e.symm
def Db (w1:jk3) (i:ByteArray) (rs:List au) (v vi:jk5) (wr:jk3):Prop:=
 ∃ (k:Nat) (rows:List (List jk5)),k<=rs.length/\vi=.int .i64 k/\aI 43 4 (fun _=>False) wr.heap.size w1 (((rs.take k).map (kJ vL i)).map Nd.d) rows v wr
theorem He (k lv:Int) (i t d ti:ByteArray) (at_:At) (li:List aj) (ks:List au) (vc vp vl vk:jk5) (w:jk3) (hR:je (·<w.heap.size) w at_ li ks vc vp vl vk) (hT:TbW i ks) : Calls Tryz.prog 160 #[.agg #[.int .i64 k,.int .i64 lv,.string i,.string t,.string d,.string ti,.string at_.id,vc,vp,vl,vk]] w (jB w (dZ i ks)):=by
 obtain ⟨ac,nc,cc,rfl⟩:=Rd.ah hR.at_.cls
 obtain ⟨ap,np,cp,rfl⟩:=Rd.ah hR.at_.aF
 obtain ⟨al,nl,cl,rfl⟩:=Rd.ah hR.line;obtain ⟨ak,ck,hvk,hs⟩:=Rd.aB hR.kids;obtain ⟨nk,hnk⟩:∃ nk,nk=ks.length:=⟨_,rfl⟩;obtain rfl:vk=.slice ak nk ck:=by rw [hnk];simpa using hvk
 obtain ⟨x0,rs,rfl⟩:∃ x0 rs,ks=x0::rs:=by
  cases ks with
  | nil=>exact absurd rfl hT.ne
  | cons a b=>exact ⟨a,b,rfl⟩
 have hcap:nk<=ck:=by have:=hs.le;rw [jh7] at this;omega
 have hmx:=hs.max;unfold maxLen at hmx;have Zr:nk=rs.length+1:=by rw [hnk,List.length_cons]
 have Yz:nk<=900000:=by have:=hT.len;omega
 obtain ⟨S,W0,hS,hW0,z0,k0,k1,b0⟩:=kL 30 w [.int .i64 k,.int .i64 lv,.string i,.string t,.string d,.string ti,.string at_.id,.slice ac nc cc,.slice ap np cp,.slice al nl cl,.slice ak nk ck];have hs2:qI (·<S) W0 11 ((x0::rs).map au.d) ak ck:=by subst hS;exact hs.below b0
 have hT0:=hT.row x0 (List.mem_cons_self ..);have hTR:=fun r hr=>hT.row r (List.mem_cons_of_mem _ hr)
 obtain ⟨xk,RD,xi,xt,xd,RG,RH,Xq,qZ⟩:=x0;obtain ⟨ga,off,xvc,xvp,xvl,xvk,rfl,hok,hbl,hc,hR0⟩:=iF (k:=0) hs2 rfl;obtain ⟨xac,xnc,xcc,rfl⟩:=Rd.ah hR0.at_.cls
 obtain ⟨xap,xnp,xcp,rfl⟩:=Rd.ah hR0.at_.aF
 obtain ⟨xal,xnl,xcl,rfl⟩:=Rd.ah hR0.line;obtain ⟨xak,xnk,xck,rfl⟩:=Rd.ah hR0.kids;have hc:=show dR W0 ga off xk RD xi xt xd RG RH.id (.slice xac xnc xcc) (.slice xap xnp xcp) (.slice xal xnl xcl) (.slice xak xnk xck) by simpa using hc
 have CX:Hid (∀ w':jk3,jk4 W0.heap.size W0 w'->w'.cell? ⟨S,2,none⟩=some (.string i)/\w'.cell? ⟨S,10,none⟩=some (.slice (some ⟨ga,off,none⟩) nk ck)/\dR w' ga off xk RD xi xt xd RG RH.id (.slice xac xnc xcc) (.slice xap xnp xcp) (.slice xal xnl xcl) (.slice xak xnk xck)):=fun w' hb=>
  ⟨(k0.below hb).cell 2 _ rfl,(k0.below hb).cell 10 _ rfl,hc.at2 (hb.block ga hbl)⟩
 have RC:Hid (∀ w':jk3,jk4 W0.heap.size W0 w'->Calls Tryz.prog 201 #[.agg #[.int .i64 xk,.int .i64 RD,.string xi,.string xt,.string xd,.string RG,.string RH.id,.slice xac xnc xcc,.slice xap xnp xcp,.slice xal xnl xcl,.slice xak xnk xck],.string ⟨#[116,104]⟩,.string i] w' (jB w' (aN nY [] (lN ze i.data.toList qZ)))):=fun w' hb=>
  ER xk RD xi xt xd RG RH Xq qZ _ _ _ _ ze i w' (je.EK hR0 (fun b (hb':b<S) hlt=>⟨by show b<w'.heap.size;have:=hb.size;omega,hb.block b (by omega)⟩)) hT0.1 hT0.2.1 hT0.2.2
 have HS2:=hid hs2;have Hl:=hid hS;have HW0:=hid hW0;have Z0:=hid z0;have B0:=hid b0;have K1:=hid k1;have WZ:=hid hTR;have Av:=hid Zr;have jfq:0<nk:=by omega
 have jfx:(0:Int)<(nk:Int):=by omega
 clear hR hvk hs hs2 hS hW0 z0 k0 k1 b0 hc hT0 hTR hT hnk Zr hR0;go_enter Tryz.func160,Tryz.ntmps160;go_upto_region 1 with (fail)
 rw [<- Hl.out];have hk0:=HW0.out;simp only [iY] at hk0;rw [<- hk0];clear hk0
 go_cut [3] (fun s3 wx=>∃ q g f,s3=.pointer (some ⟨q,0,none⟩)/\Zp W0 q g wx (aN zK [] [aN nY [] (lN ze i.data.toList qZ)]).d [.string ⟨#[116,104,101,97,100]⟩,.string ⟨#[]⟩,.slice none 0 0,.slice (some ⟨f,0,none⟩) 1 1] [.string ⟨#[116,97,98,108,101]⟩,.string ⟨#[]⟩,.slice none 0 0,.slice (some ⟨g,0,none⟩) 1 1])
 case first=>
  refine iO 12 (fun w'=>jk4 W0.heap.size W0 w') (by kernel_rfl) (jh1 _ _).drew ?_;intro hH;refine nM (i:=0) (v:=?_) rfl (by kernel_rfl) (by kernel_rfl) (by kernel_rfl) (by kernel_rfl) (by kernel_rfl) (fun _ _ _ h=>h) hH (Or.inl ⟨by rfl,?_⟩) ?_;rotate_left
  ·(intro wv hSw;obtain ⟨e2,e10,c0,c1,c2,c3,c4,c5,c6,c7,c8,c9,c10⟩:=CX.out wv hSw;go_simp;try with_reducible rfl)
  try simp only [Act.put,jgq,jgx,jgz]
  refine nM (i:=1) (v:=?_) rfl (by kernel_rfl) (by kernel_rfl) (by kernel_rfl) (by kernel_rfl) (by kernel_rfl) (fun _ _ _ h=>h) hH (Or.inl ⟨by rfl,?_⟩) ?_;rotate_left
  ·(intro wv hSw;obtain ⟨e2,e10,c0,c1,c2,c3,c4,c5,c6,c7,c8,c9,c10⟩:=CX.out wv hSw;go_simp;try with_reducible rfl)
  try simp only [Act.put,jgq,jgx,jgz]
  refine nM (i:=2) (v:=?_) rfl (by kernel_rfl) (by kernel_rfl) (by kernel_rfl) (by kernel_rfl) (by kernel_rfl) (fun _ _ _ h=>h) hH (Or.inl ⟨by rfl,?_⟩) ?_;rotate_left
  ·(intro wv hSw;obtain ⟨e2,e10,c0,c1,c2,c3,c4,c5,c6,c7,c8,c9,c10⟩:=CX.out wv hSw;go_simp;try with_reducible rfl)
  try simp only [Act.put,jgq,jgx,jgz]
  refine nM (i:=3) (v:=?_) rfl (by kernel_rfl) (by kernel_rfl) (by kernel_rfl) (by kernel_rfl) (by kernel_rfl) (fun _ _ _ h=>h) hH (Or.inl ⟨by rfl,?_⟩) ?_;rotate_left
  ·(intro wv hSw;obtain ⟨e2,e10,c0,c1,c2,c3,c4,c5,c6,c7,c8,c9,c10⟩:=CX.out wv hSw;go_simp;try with_reducible rfl)
  try simp only [Act.put,jgq,jgx,jgz]
  refine nM (i:=4) (v:=?_) rfl (by kernel_rfl) (by kernel_rfl) (by kernel_rfl) (by kernel_rfl) (by kernel_rfl) (fun _ _ _ h=>h) hH (Or.inl ⟨by rfl,?_⟩) ?_;rotate_left
  ·(intro wv hSw;obtain ⟨e2,e10,c0,c1,c2,c3,c4,c5,c6,c7,c8,c9,c10⟩:=CX.out wv hSw;go_simp;try with_reducible rfl)
  try simp only [Act.put,jgq,jgx,jgz]
  refine nM (i:=5) (v:=?_) rfl (by kernel_rfl) (by kernel_rfl) (by kernel_rfl) (by kernel_rfl) (by kernel_rfl) (fun _ _ _ h=>h) hH (Or.inl ⟨by rfl,?_⟩) ?_;rotate_left
  ·(intro wv hSw;obtain ⟨e2,e10,c0,c1,c2,c3,c4,c5,c6,c7,c8,c9,c10⟩:=CX.out wv hSw;go_simp;try with_reducible rfl)
  try simp only [Act.put,jgq,jgx,jgz]
  obtain ⟨y0,hy0⟩:∃ y0,y0=W0.drew:=⟨_,rfl⟩;rw [<- hy0] at hH;rw [<- hy0];clear hy0;have Zt:Hid (Ar W0 none y0 (bS []) [.slice none 0 0]):=⟨hH,fun p hp=>by simp at hp,Rd.ay _ _ _⟩;refine zD (i:=6) (j:=11) rfl rfl (by kernel_rfl) (fun KQ hK=>?_) (fun KQ hK=>?_)
  ·go_simp;go_at_call 201
   (with_reducible refine (RC.out y0 Zt.out.aL).mono ?_)
   rintro e y1 ⟨va,vk,he,hR,hb⟩;obtain ⟨aA,nA,cA,rfl⟩:=Rd.ah hR.at_
   obtain ⟨aK,nK,cK,rfl⟩:=Rd.ah hR.ks;have he:e=.returned (.agg #[.string nY,.string ⟨#[]⟩,.slice aA nA cA,.slice aK nK cK]):=he;subst he;have Ou:=hid (Zt.out.nd hb (Nd.fJ nY ⟨#[]⟩ hR));clear hb hR;refine hK.out _ _ (fun _ _=>Ou.out.aL) (fun hH2=>?_);clear hK KQ hH;have hH:=hH2 (by decide) (by kernel_rfl);clear hH2;try simp only [Act.put,jgq,jgx,jgz]
   clear Zt;refine zD (i:=7) (j:=11) rfl rfl (by kernel_rfl) (fun KQ hK=>?_) (fun KQ hK=>?_)
   ·go_simp;obtain ⟨y2,hN⟩:∃ y2,y2=y1.alloc (.cells #[.string nY,.string ⟨#[]⟩,.slice aA nA cA,.slice aK nK cK] 43):=⟨_,rfl⟩;obtain ⟨f,hf⟩:∃ f,f=y1.heap.size:=⟨_,rfl⟩;have Il:=hid Ou.out.lit;rw [<- hN,<- hf] at Il;rw [<- hN,<- hf];clear hN hf;refine hK.out _ _ (fun _ _=>Il.out.aL) (fun hH2=>?_);clear hK KQ hH;have hH:=hH2 (by decide) (by kernel_rfl);clear hH2;try simp only [Act.put,jgq,jgx,jgz]
    clear Ou;refine zD (i:=8) (j:=11) rfl rfl (by kernel_rfl) (fun KQ hK=>?_) (fun KQ hK=>?_)
    ·go_simp;go_at_call 57
     (with_reducible refine (iR ⟨#[116,104,101,97,100]⟩ none (some ⟨f,0,none⟩) 0 1 0 1 y2).mono ?_)
     rintro e y3 ⟨rfl,hb⟩;have AX:=hid (Il.out.el hb ⟨#[116,104,101,97,100]⟩);clear hb;refine hK.out _ _ (fun _ _=>AX.out.aL) (fun hH2=>?_);clear hK KQ hH;have hH:=hH2 (by decide) (by kernel_rfl);clear hH2;try simp only [Act.put,jgq,jgx,jgz]
     clear Il;refine zD (i:=9) (j:=11) rfl rfl (by kernel_rfl) (fun KQ hK=>?_) (fun KQ hK=>?_)
     ·go_simp;obtain ⟨y4,hN⟩:∃ y4,y4=y3.alloc (.cells #[.string ⟨#[116,104,101,97,100]⟩,.string ⟨#[]⟩,.slice none 0 0,.slice (some ⟨f,0,none⟩) 1 1] 43):=⟨_,rfl⟩;obtain ⟨g,hf⟩:∃ g,g=y3.heap.size:=⟨_,rfl⟩;have xW:=hid AX.out.Ot;rw [<- hN,<- hf] at xW;rw [<- hN,<- hf];clear hN hf;refine hK.out _ _ (fun _ _=>xW.out.aL) (fun hH2=>?_);clear hK KQ hH;have hH:=hH2 (by decide) (by kernel_rfl);clear hH2;try simp only [Act.put,jgq,jgx,jgz]
      clear AX;refine zD (i:=10) (j:=11) rfl rfl (by kernel_rfl) (fun KQ hK=>?_) (fun KQ hK=>?_)
      ·go_simp;go_at_call 57
       (with_reducible refine (iR ⟨#[116,97,98,108,101]⟩ none (some ⟨g,0,none⟩) 0 1 0 1 y4).mono ?_)
       rintro e y5 ⟨rfl,hb⟩;have sF:=hid (xW.out.far hb);clear hb;refine hK.out _ _ (fun _ _=>sF.out.aL) (fun hH2=>?_);clear hK KQ hH;have hH:=hH2 (by decide) (by kernel_rfl);clear hH2;try simp only [Act.put,jgq,jgx,jgz]
       clear xW;refine q01 (i:=11) rfl (by kernel_rfl) (fun KQ hK=>?_);go_simp;obtain ⟨y6,hN⟩:∃ y6,y6=y5.alloc (.cells #[.string ⟨#[]⟩,.string ⟨#[]⟩,.slice none 0 0,.slice none 0 0] 43):=⟨_,rfl⟩;obtain ⟨q,hf⟩:∃ q,q=y5.heap.size:=⟨_,rfl⟩;have vM:=hid sF.out.zero;rw [<- hN,<- hf] at vM;rw [<- hN,<- hf];clear hN hf;refine hK.out _ _ (fun _ _=>vM.out.aL) (fun hH2=>?_);clear hK KQ hH;have hH:=hH2 (by decide) (by kernel_rfl);clear hH2;try simp only [Act.put,jgq,jgx,jgz]
       clear sF;refine q01 (i:=12) rfl (by kernel_rfl) (fun KQ hK=>?_);obtain ⟨x0,x1,x2,x3,xf⟩:=dW (vM.out.cb q rfl).2;go_simp;have HJ:=hid (vM.out.put (.string ⟨#[116,97,98,108,101]⟩) (.string ⟨#[]⟩) (.slice none 0 0) (.slice (some ⟨g,0,none⟩) 1 1));clear x0 x1 x2 x3 xf;refine hK.out _ _ (fun h=>absurd rfl h) (fun _=>?_);clear hK KQ hH;try simp only [Act.put,jgq,jgx,jgz]
       refine uj (by kernel_rfl) ?_ _;go_wp2
       go_meet
       exact ⟨q,g,f,rfl,HJ.out⟩
      ·go_simp;obtain ⟨y5,hN⟩:∃ y5,y5=y4.alloc (.cells #[.string ⟨#[]⟩,.string ⟨#[]⟩,.slice none 0 0,.slice none 0 0] 43):=⟨_,rfl⟩;obtain ⟨q,hf⟩:∃ q,q=y4.heap.size:=⟨_,rfl⟩;have sF:=hid xW.out.zero;rw [<- hN,<- hf] at sF;rw [<- hN,<- hf];clear hN hf;refine hK.out _ _ (fun _ _=>sF.out.aL) (fun hH2=>?_);clear hK KQ hH;have hH:=hH2 (by decide) (by kernel_rfl);clear hH2;try simp only [Act.put,jgq,jgx,jgz]
       clear xW;refine q01 (i:=10) rfl (by kernel_rfl) (fun KQ hK=>?_);go_simp;go_at_call 57
       (with_reducible refine (iR ⟨#[116,97,98,108,101]⟩ none (some ⟨g,0,none⟩) 0 1 0 1 y5).mono ?_)
       rintro e y6 ⟨rfl,hb⟩;have vM:=hid (sF.out.far hb);clear hb;refine hK.out _ _ (fun _ _=>vM.out.aL) (fun hH2=>?_);clear hK KQ hH;have hH:=hH2 (by decide) (by kernel_rfl);clear hH2;try simp only [Act.put,jgq,jgx,jgz]
       clear sF;refine q01 (i:=12) rfl (by kernel_rfl) (fun KQ hK=>?_);obtain ⟨x0,x1,x2,x3,xf⟩:=dW (vM.out.cb q rfl).2;go_simp;have HJ:=hid (vM.out.put (.string ⟨#[116,97,98,108,101]⟩) (.string ⟨#[]⟩) (.slice none 0 0) (.slice (some ⟨g,0,none⟩) 1 1));clear x0 x1 x2 x3 xf;refine hK.out _ _ (fun h=>absurd rfl h) (fun _=>?_);clear hK KQ hH;try simp only [Act.put,jgq,jgx,jgz]
       refine uj (by kernel_rfl) ?_ _;go_wp2
       go_meet
       exact ⟨q,g,f,rfl,HJ.out⟩
     ·go_simp;obtain ⟨y4,hN⟩:∃ y4,y4=y3.alloc (.cells #[.string ⟨#[]⟩,.string ⟨#[]⟩,.slice none 0 0,.slice none 0 0] 43):=⟨_,rfl⟩;obtain ⟨q,hf⟩:∃ q,q=y3.heap.size:=⟨_,rfl⟩;have xW:=hid AX.out.zero;rw [<- hN,<- hf] at xW;rw [<- hN,<- hf];clear hN hf;refine hK.out _ _ (fun _ _=>xW.out.aL) (fun hH2=>?_);clear hK KQ hH;have hH:=hH2 (by decide) (by kernel_rfl);clear hH2;try simp only [Act.put,jgq,jgx,jgz]
      clear AX;refine q01 (i:=9) rfl (by kernel_rfl) (fun KQ hK=>?_);go_simp;obtain ⟨y5,hN⟩:∃ y5,y5=y4.alloc (.cells #[.string ⟨#[116,104,101,97,100]⟩,.string ⟨#[]⟩,.slice none 0 0,.slice (some ⟨f,0,none⟩) 1 1] 43):=⟨_,rfl⟩;obtain ⟨g,hf⟩:∃ g,g=y4.heap.size:=⟨_,rfl⟩;have sF:=hid xW.out.Ot;rw [<- hN,<- hf] at sF;rw [<- hN,<- hf];clear hN hf;refine hK.out _ _ (fun _ _=>sF.out.aL) (fun hH2=>?_);clear hK KQ hH;have hH:=hH2 (by decide) (by kernel_rfl);clear hH2;try simp only [Act.put,jgq,jgx,jgz]
      clear xW;refine q01 (i:=10) rfl (by kernel_rfl) (fun KQ hK=>?_);go_simp;go_at_call 57
      (with_reducible refine (iR ⟨#[116,97,98,108,101]⟩ none (some ⟨g,0,none⟩) 0 1 0 1 y5).mono ?_)
      rintro e y6 ⟨rfl,hb⟩;have vM:=hid (sF.out.far hb);clear hb;refine hK.out _ _ (fun _ _=>vM.out.aL) (fun hH2=>?_);clear hK KQ hH;have hH:=hH2 (by decide) (by kernel_rfl);clear hH2;try simp only [Act.put,jgq,jgx,jgz]
      clear sF;refine q01 (i:=12) rfl (by kernel_rfl) (fun KQ hK=>?_);obtain ⟨x0,x1,x2,x3,xf⟩:=dW (vM.out.cb q rfl).2;go_simp;have HJ:=hid (vM.out.put (.string ⟨#[116,97,98,108,101]⟩) (.string ⟨#[]⟩) (.slice none 0 0) (.slice (some ⟨g,0,none⟩) 1 1));clear x0 x1 x2 x3 xf;refine hK.out _ _ (fun h=>absurd rfl h) (fun _=>?_);clear hK KQ hH;try simp only [Act.put,jgq,jgx,jgz]
      refine uj (by kernel_rfl) ?_ _;go_wp2
      go_meet
      exact ⟨q,g,f,rfl,HJ.out⟩
    ·go_simp;obtain ⟨y3,hN⟩:∃ y3,y3=y2.alloc (.cells #[.string ⟨#[]⟩,.string ⟨#[]⟩,.slice none 0 0,.slice none 0 0] 43):=⟨_,rfl⟩;obtain ⟨q,hf⟩:∃ q,q=y2.heap.size:=⟨_,rfl⟩;have AX:=hid Il.out.zero;rw [<- hN,<- hf] at AX;rw [<- hN,<- hf];clear hN hf;refine hK.out _ _ (fun _ _=>AX.out.aL) (fun hH2=>?_);clear hK KQ hH;have hH:=hH2 (by decide) (by kernel_rfl);clear hH2;try simp only [Act.put,jgq,jgx,jgz]
     clear Il;refine q01 (i:=8) rfl (by kernel_rfl) (fun KQ hK=>?_);go_simp;go_at_call 57
     (with_reducible refine (iR ⟨#[116,104,101,97,100]⟩ none (some ⟨f,0,none⟩) 0 1 0 1 y3).mono ?_)
     rintro e y4 ⟨rfl,hb⟩;have xW:=hid (AX.out.el hb ⟨#[116,104,101,97,100]⟩);clear hb;refine hK.out _ _ (fun _ _=>xW.out.aL) (fun hH2=>?_);clear hK KQ hH;have hH:=hH2 (by decide) (by kernel_rfl);clear hH2;try simp only [Act.put,jgq,jgx,jgz]
     clear AX;refine q01 (i:=9) rfl (by kernel_rfl) (fun KQ hK=>?_);go_simp;obtain ⟨y5,hN⟩:∃ y5,y5=y4.alloc (.cells #[.string ⟨#[116,104,101,97,100]⟩,.string ⟨#[]⟩,.slice none 0 0,.slice (some ⟨f,0,none⟩) 1 1] 43):=⟨_,rfl⟩;obtain ⟨g,hf⟩:∃ g,g=y4.heap.size:=⟨_,rfl⟩;have sF:=hid xW.out.Ot;rw [<- hN,<- hf] at sF;rw [<- hN,<- hf];clear hN hf;refine hK.out _ _ (fun _ _=>sF.out.aL) (fun hH2=>?_);clear hK KQ hH;have hH:=hH2 (by decide) (by kernel_rfl);clear hH2;try simp only [Act.put,jgq,jgx,jgz]
     clear xW;refine q01 (i:=10) rfl (by kernel_rfl) (fun KQ hK=>?_);go_simp;go_at_call 57
     (with_reducible refine (iR ⟨#[116,97,98,108,101]⟩ none (some ⟨g,0,none⟩) 0 1 0 1 y5).mono ?_)
     rintro e y6 ⟨rfl,hb⟩;have vM:=hid (sF.out.far hb);clear hb;refine hK.out _ _ (fun _ _=>vM.out.aL) (fun hH2=>?_);clear hK KQ hH;have hH:=hH2 (by decide) (by kernel_rfl);clear hH2;try simp only [Act.put,jgq,jgx,jgz]
     clear sF;refine q01 (i:=12) rfl (by kernel_rfl) (fun KQ hK=>?_);obtain ⟨x0,x1,x2,x3,xf⟩:=dW (vM.out.cb q rfl).2;go_simp;have HJ:=hid (vM.out.put (.string ⟨#[116,97,98,108,101]⟩) (.string ⟨#[]⟩) (.slice none 0 0) (.slice (some ⟨g,0,none⟩) 1 1));clear x0 x1 x2 x3 xf;refine hK.out _ _ (fun h=>absurd rfl h) (fun _=>?_);clear hK KQ hH;try simp only [Act.put,jgq,jgx,jgz]
     refine uj (by kernel_rfl) ?_ _;go_wp2
     go_meet
     exact ⟨q,g,f,rfl,HJ.out⟩
   ·go_simp;obtain ⟨y2,hN⟩:∃ y2,y2=y1.alloc (.cells #[.string ⟨#[]⟩,.string ⟨#[]⟩,.slice none 0 0,.slice none 0 0] 43):=⟨_,rfl⟩;obtain ⟨q,hf⟩:∃ q,q=y1.heap.size:=⟨_,rfl⟩;have Il:=hid Ou.out.zero;rw [<- hN,<- hf] at Il;rw [<- hN,<- hf];clear hN hf;refine hK.out _ _ (fun _ _=>Il.out.aL) (fun hH2=>?_);clear hK KQ hH;have hH:=hH2 (by decide) (by kernel_rfl);clear hH2;try simp only [Act.put,jgq,jgx,jgz]
    clear Ou;refine q01 (i:=7) rfl (by kernel_rfl) (fun KQ hK=>?_);go_simp;obtain ⟨y3,hN⟩:∃ y3,y3=y2.alloc (.cells #[.string nY,.string ⟨#[]⟩,.slice aA nA cA,.slice aK nK cK] 43):=⟨_,rfl⟩;obtain ⟨f,hf⟩:∃ f,f=y2.heap.size:=⟨_,rfl⟩;have AX:=hid Il.out.lit;rw [<- hN,<- hf] at AX;rw [<- hN,<- hf];clear hN hf;refine hK.out _ _ (fun _ _=>AX.out.aL) (fun hH2=>?_);clear hK KQ hH;have hH:=hH2 (by decide) (by kernel_rfl);clear hH2;try simp only [Act.put,jgq,jgx,jgz]
    clear Il;refine q01 (i:=8) rfl (by kernel_rfl) (fun KQ hK=>?_);go_simp;go_at_call 57
    (with_reducible refine (iR ⟨#[116,104,101,97,100]⟩ none (some ⟨f,0,none⟩) 0 1 0 1 y3).mono ?_)
    rintro e y4 ⟨rfl,hb⟩;have xW:=hid (AX.out.el hb ⟨#[116,104,101,97,100]⟩);clear hb;refine hK.out _ _ (fun _ _=>xW.out.aL) (fun hH2=>?_);clear hK KQ hH;have hH:=hH2 (by decide) (by kernel_rfl);clear hH2;try simp only [Act.put,jgq,jgx,jgz]
    clear AX;refine q01 (i:=9) rfl (by kernel_rfl) (fun KQ hK=>?_);go_simp;obtain ⟨y5,hN⟩:∃ y5,y5=y4.alloc (.cells #[.string ⟨#[116,104,101,97,100]⟩,.string ⟨#[]⟩,.slice none 0 0,.slice (some ⟨f,0,none⟩) 1 1] 43):=⟨_,rfl⟩;obtain ⟨g,hf⟩:∃ g,g=y4.heap.size:=⟨_,rfl⟩;have sF:=hid xW.out.Ot;rw [<- hN,<- hf] at sF;rw [<- hN,<- hf];clear hN hf;refine hK.out _ _ (fun _ _=>sF.out.aL) (fun hH2=>?_);clear hK KQ hH;have hH:=hH2 (by decide) (by kernel_rfl);clear hH2;try simp only [Act.put,jgq,jgx,jgz]
    clear xW;refine q01 (i:=10) rfl (by kernel_rfl) (fun KQ hK=>?_);go_simp;go_at_call 57
    (with_reducible refine (iR ⟨#[116,97,98,108,101]⟩ none (some ⟨g,0,none⟩) 0 1 0 1 y5).mono ?_)
    rintro e y6 ⟨rfl,hb⟩;have vM:=hid (sF.out.far hb);clear hb;refine hK.out _ _ (fun _ _=>vM.out.aL) (fun hH2=>?_);clear hK KQ hH;have hH:=hH2 (by decide) (by kernel_rfl);clear hH2;try simp only [Act.put,jgq,jgx,jgz]
    clear sF;refine q01 (i:=12) rfl (by kernel_rfl) (fun KQ hK=>?_);obtain ⟨x0,x1,x2,x3,xf⟩:=dW (vM.out.cb q rfl).2;go_simp;have HJ:=hid (vM.out.put (.string ⟨#[116,97,98,108,101]⟩) (.string ⟨#[]⟩) (.slice none 0 0) (.slice (some ⟨g,0,none⟩) 1 1));clear x0 x1 x2 x3 xf;refine hK.out _ _ (fun h=>absurd rfl h) (fun _=>?_);clear hK KQ hH;try simp only [Act.put,jgq,jgx,jgz]
    refine uj (by kernel_rfl) ?_ _;go_wp2
    go_meet
    exact ⟨q,g,f,rfl,HJ.out⟩
  ·go_simp;obtain ⟨y1,hN⟩:∃ y1,y1=y0.alloc (.cells #[.string ⟨#[]⟩,.string ⟨#[]⟩,.slice none 0 0,.slice none 0 0] 43):=⟨_,rfl⟩;obtain ⟨q,hf⟩:∃ q,q=y0.heap.size:=⟨_,rfl⟩;have Ou:=hid Zt.out.zero;rw [<- hN,<- hf] at Ou;rw [<- hN,<- hf];clear hN hf;refine hK.out _ _ (fun _ _=>Ou.out.aL) (fun hH2=>?_);clear hK KQ hH;have hH:=hH2 (by decide) (by kernel_rfl);clear hH2;try simp only [Act.put,jgq,jgx,jgz]
   clear Zt;refine q01 (i:=6) rfl (by kernel_rfl) (fun KQ hK=>?_);go_simp;go_at_call 201
   (with_reducible refine (RC.out y1 Ou.out.aL).mono ?_)
   rintro e y2 ⟨va,vk,he,hR,hb⟩;obtain ⟨aA,nA,cA,rfl⟩:=Rd.ah hR.at_
   obtain ⟨aK,nK,cK,rfl⟩:=Rd.ah hR.ks;have he:e=.returned (.agg #[.string nY,.string ⟨#[]⟩,.slice aA nA cA,.slice aK nK cK]):=he;subst he;have Il:=hid (Ou.out.nd hb (Nd.fJ nY ⟨#[]⟩ hR));clear hb hR;refine hK.out _ _ (fun _ _=>Il.out.aL) (fun hH2=>?_);clear hK KQ hH;have hH:=hH2 (by decide) (by kernel_rfl);clear hH2;try simp only [Act.put,jgq,jgx,jgz]
   clear Ou;refine q01 (i:=7) rfl (by kernel_rfl) (fun KQ hK=>?_);go_simp;obtain ⟨y3,hN⟩:∃ y3,y3=y2.alloc (.cells #[.string nY,.string ⟨#[]⟩,.slice aA nA cA,.slice aK nK cK] 43):=⟨_,rfl⟩;obtain ⟨f,hf⟩:∃ f,f=y2.heap.size:=⟨_,rfl⟩;have AX:=hid Il.out.lit;rw [<- hN,<- hf] at AX;rw [<- hN,<- hf];clear hN hf;refine hK.out _ _ (fun _ _=>AX.out.aL) (fun hH2=>?_);clear hK KQ hH;have hH:=hH2 (by decide) (by kernel_rfl);clear hH2;try simp only [Act.put,jgq,jgx,jgz]
   clear Il;refine q01 (i:=8) rfl (by kernel_rfl) (fun KQ hK=>?_);go_simp;go_at_call 57
   (with_reducible refine (iR ⟨#[116,104,101,97,100]⟩ none (some ⟨f,0,none⟩) 0 1 0 1 y3).mono ?_)
   rintro e y4 ⟨rfl,hb⟩;have xW:=hid (AX.out.el hb ⟨#[116,104,101,97,100]⟩);clear hb;refine hK.out _ _ (fun _ _=>xW.out.aL) (fun hH2=>?_);clear hK KQ hH;have hH:=hH2 (by decide) (by kernel_rfl);clear hH2;try simp only [Act.put,jgq,jgx,jgz]
   clear AX;refine q01 (i:=9) rfl (by kernel_rfl) (fun KQ hK=>?_);go_simp;obtain ⟨y5,hN⟩:∃ y5,y5=y4.alloc (.cells #[.string ⟨#[116,104,101,97,100]⟩,.string ⟨#[]⟩,.slice none 0 0,.slice (some ⟨f,0,none⟩) 1 1] 43):=⟨_,rfl⟩;obtain ⟨g,hf⟩:∃ g,g=y4.heap.size:=⟨_,rfl⟩;have sF:=hid xW.out.Ot;rw [<- hN,<- hf] at sF;rw [<- hN,<- hf];clear hN hf;refine hK.out _ _ (fun _ _=>sF.out.aL) (fun hH2=>?_);clear hK KQ hH;have hH:=hH2 (by decide) (by kernel_rfl);clear hH2;try simp only [Act.put,jgq,jgx,jgz]
   clear xW;refine q01 (i:=10) rfl (by kernel_rfl) (fun KQ hK=>?_);go_simp;go_at_call 57
   (with_reducible refine (iR ⟨#[116,97,98,108,101]⟩ none (some ⟨g,0,none⟩) 0 1 0 1 y5).mono ?_)
   rintro e y6 ⟨rfl,hb⟩;have vM:=hid (sF.out.far hb);clear hb;refine hK.out _ _ (fun _ _=>vM.out.aL) (fun hH2=>?_);clear hK KQ hH;have hH:=hH2 (by decide) (by kernel_rfl);clear hH2;try simp only [Act.put,jgq,jgx,jgz]
   clear sF;refine q01 (i:=12) rfl (by kernel_rfl) (fun KQ hK=>?_);obtain ⟨x0,x1,x2,x3,xf⟩:=dW (vM.out.cb q rfl).2;go_simp;have HJ:=hid (vM.out.put (.string ⟨#[116,97,98,108,101]⟩) (.string ⟨#[]⟩) (.slice none 0 0) (.slice (some ⟨g,0,none⟩) 1 1));clear x0 x1 x2 x3 xf;refine hK.out _ _ (fun h=>absurd rfl h) (fun _=>?_);clear hK KQ hH;try simp only [Act.put,jgq,jgx,jgz]
   refine uj (by kernel_rfl) ?_ _;go_wp2
   go_meet
   exact ⟨q,g,f,rfl,HJ.out⟩
 case rest=>
  obtain ⟨q,g,f,rfl,hJ⟩:=hcut;obtain ⟨w1,hw1⟩:∃ w1:jk3,w1=wc:=⟨_,rfl⟩;subst hw1;have HJ:=hid hJ;obtain ⟨-,e10,-⟩:=CX.out w1 hJ.aL;obtain ⟨iN,qG,fZ,gq,gu⟩:=info_parts lW;obtain ⟨nr,hnr⟩:∃ nr,nr=nk-1:=⟨_,rfl⟩;have Fj:Hid (nr=rs.length):=by have:=Av.out;show _=_;omega
  have jfz:nr<=900000:=by omega
  have R0:Hid (Db w1 i rs (.slice none 0 0) (.int .i64 0) w1):=⟨0,[],Nat.zero_le _,rfl,aI.nil _ _ _ _⟩;have hZ0:W0.heap.size=S+2:=Z0.out;clear hJ;by_cases hck:ck=1
  ·have hnz:nr=0:=by omega
   subst hck;go_upto_region 4 with (fail)
   subst hnz;clear hnr e10
   go_loopw [4,22] (fun v vi wr=>Db w1 i rs v vi wr) (fun _ vi _=>0-(intOf vi).toNat)
   case atStart=>exact R0.out
   case round=>
    clear R0;obtain ⟨j,rows,hj,rfl,hrow⟩:=hrel;obtain ⟨ds,hds⟩:∃ ds,ds=((rs.take j).map (kJ vL i)).map Nd.d:=⟨_,rfl⟩;rw [<- hds] at hrow;obtain ⟨m,hm⟩:∃ m,m=ds.length:=⟨_,rfl⟩;have hmj:m<=1000000:=by have h2:(rs.take j).length<=rs.length:=List.length_take_le' _ _;rw [hm,hds,jh7,jh7];have:=Fj.out;omega
    obtain ⟨av,cv,rfl,-,-⟩:=hrow.cap hm.symm;have HM:=hid hm.symm;have vG:=hid hds;have aV:=hid hrow;clear hrow hm hds;by_cases hlt:j<0
    ·exact absurd hlt (by omega)
    ·have hkl:j=0:=by have:=Fj.out;omega
     have hjr:j=rs.length:=by have:=Fj.out;omega
     have HNV:Hid (Rd (w1.heap.size<=·) wr (bS (rs.map (kJ vL i))) [.slice av m cv]):=by have h:=aV.out.cu;rw [vG.out,hjr,List.take_length] at h;exact h
     have zL:=hid (HJ.out.far aV.out.aL);have Ql:Hid (W0.heap.size<=w1.heap.size):=HJ.out.aL.size;have Xo:Hid (q<w1.heap.size):=HJ.out.cq.lt;have HG1:Hid (g<w1.heap.size):=HJ.out.cg.lt;by_cases hm0:m=0
     ·have HE:Hid (rs=[]):=by
       have:=HM.out;rw [vG.out,hjr] at this;simp at this;exact List.length_eq_zero_iff.1 (by omega)
      subst hm0;have BL:=zL.out.aL;have HQ:=hid zL.out.cq;have QS:Hid (gP (W0.heap.size<=·) wr [] [aN zK [] [aN nY [] (lN ze i.data.toList qZ)]] (.slice none 0 0) (.slice (some ⟨g,0,none⟩) 1 1)):=⟨Rd.ay _ _ _,Rd.ig (l:=[(aN zK [] [aN nY [] (lN ze i.data.toList qZ)]).d]) (rows:=[[.string ⟨#[116,104,101,97,100]⟩,.string ⟨#[]⟩,.slice none 0 0,.slice (some ⟨f,0,none⟩) 1 1]]) (Fh zL.out.cg rfl) (aP.one (zL.out.rd.weaken (fun b hb=>hb.1))) (by simp) (fun b hb=>by
       have e1:g=b:=by simpa [Value.ownBlock] using hb
       rw [<- e1];exact zL.out.hg.1)⟩
      have Wp:Hid (dZ i (au.mk xk RD xi xt xd RG RH Xq qZ::rs)=aN oh [] [aN zK [] [aN nY [] (lN ze i.data.toList qZ)]]):=by show _=_;rw [HE.out];rfl
      obtain ⟨x0,x1,x2,x3,xf⟩:=dW (K1.out.below BL);obtain ⟨y0,y1,y2,y3,-⟩:=YD HQ.out;go_upto_region 10 with (fail)
      obtain ⟨w9,aO⟩:∃ w9,w9=bU wr (S+1) (.string ⟨#[116,97,98,108,101]⟩) (.string ⟨#[]⟩) (.slice none 0 0) (.slice (some ⟨g,0,none⟩) 1 1):=⟨_,rfl⟩;have hf:=iZ ⟨#[116,97,98,108,101]⟩ ⟨#[]⟩ [] ([aN zK [] [aN nY [] (lN ze i.data.toList qZ)]]) Hl.out Z0.out B0.out K1.out BL QS.out;rw [<- aO] at hf;have iW:=hid hf.1;have Cu:=hid hf.2;clear hf;have hw8:=aO;simp only [bU] at hw8;clear aO;go_wp2;rw [<- hw8];have r0:=iW.out.cell 0 _ rfl;have r1:=iW.out.cell 1 _ rfl;have r2:=iW.out.cell 2 _ rfl;have r3:=iW.out.cell 3 _ rfl;exact bodyPost_ret (v:=.agg #[.string ⟨#[116,97,98,108,101]⟩,.string ⟨#[]⟩,.slice none 0 0,.slice (some ⟨g,0,none⟩) 1 1]) (by simp [results,Tryz.results160,go_sem,r0,r1,r2,r3]) rfl (by rw [Wp.out];exact Cu.out)
     ·have hm1:0<m:=by omega
      have HE:Hid (rs.isEmpty=false):=by
       show _=_;cases hrs:rs with
       | nil=>
        have:=HM.out;rw [vG.out,hrs] at this;simp at this;omega
       | cons _ _=>rfl
      have S0:wr.drew.cell? ⟨q,3,none⟩=some (.slice (some ⟨g,0,none⟩) 1 1):=zL.out.cq.cell 3 _ rfl;have Wp:Hid (dZ i (au.mk xk RD xi xt xd RG RH Xq qZ::rs)=aN oh [] [aN zK [] [aN nY [] (lN ze i.data.toList qZ)],aN mh [] (rs.map (kJ vL i))]):=by show aN oh [] (aN zK [] [aN nY [] (lN ze i.data.toList qZ)]::if rs.isEmpty=true then [] else [aN mh [] (rs.map (kJ vL i))])=_;rw [HE.out];rfl
      clear hkl hjr hm0;go_upto_region 9 with (fail)
      refine Ti 7 (fun w'=>w'.cell? ⟨q,3,none⟩=some (.slice (some ⟨g,0,none⟩) 1 1)) (by kernel_rfl) S0 ?_;intro hH;refine jA (i:=0) (v:=?_) rfl (by kernel_rfl) (by kernel_rfl) (by kernel_rfl) (by kernel_rfl) (fun _ _ _ h=>h) hH (Or.inl ⟨by rfl,?_⟩) ?_;rotate_left
      ·(intro wv hSw;(try dsimp only at hSw);go_simp;try with_reducible rfl)
      try simp only [Act.put,jgq,jgx,jgz]
      refine jA (i:=1) (v:=?_) rfl (by kernel_rfl) (by kernel_rfl) (by kernel_rfl) (by kernel_rfl) (fun _ _ _ h=>h) hH (Or.inl ⟨by rfl,?_⟩) ?_;rotate_left
      ·(intro wv hSw;(try dsimp only at hSw);go_simp;try with_reducible rfl)
      try simp only [Act.put,jgq,jgx,jgz]
      refine jA (i:=2) (v:=?_) rfl (by kernel_rfl) (by kernel_rfl) (by kernel_rfl) (by kernel_rfl) (fun _ _ _ h=>h) hH (Or.inl ⟨by rfl,?_⟩) ?_;rotate_left
      ·(intro wv hSw;(try dsimp only at hSw);go_simp;try with_reducible rfl)
      try simp only [Act.put,jgq,jgx,jgz]
      refine lY (i:=3) rfl (by kernel_rfl) (fun KQ hK=>?_);go_simp;go_at_call 57
      (with_reducible refine (iR ⟨#[116,98,111,100,121]⟩ none av 0 m 0 cv _).mono ?_)
      rintro e w3 ⟨rfl,b3⟩;have B3:jk4 wr.heap.size wr w3:=((jh1 _ _).drew).trans b3;have rM:=hid (zL.out.far B3);have S3:w3.cell? ⟨q,3,none⟩=some (.slice (some ⟨g,0,none⟩) 1 1):=rM.out.cq.cell 3 _ rfl;have XD:=hid (show Rd (fun b=>w1.heap.size<=b) w3 (aN ⟨#[116,98,111,100,121]⟩ [] (rs.map (kJ vL i))).d [.string ⟨#[116,98,111,100,121]⟩,.string ⟨#[]⟩,.slice none 0 0,.slice av m cv] from Nd.fJ ⟨#[116,98,111,100,121]⟩ ⟨#[]⟩ ⟨Rd.ay _ _ _,HNV.out.aW B3⟩);have HB3:=hid B3;clear b3 B3 S0;refine hK.out _ _ (fun _=>S3) (fun hH2=>?_);clear hK KQ hH;have hH:=hH2 (by decide);clear hH2;try simp only [Act.put,jgq,jgx,jgz]
      refine lY (i:=4) rfl (by kernel_rfl) (fun KQ hK=>?_);go_simp;refine hK.out _ _ (fun _=>past S3 _) (fun hH2=>?_);clear hK KQ hH;have hH:=hH2 (by decide);clear hH2;try simp only [Act.put,jgq,jgx,jgz]
      refine lY (i:=5) rfl (by kernel_rfl) (fun KQ hK=>?_);refine AU (n:=1) rfl (.tmp 38) (.tmp 41) 34 rfl iN _ 80 Tryz.underlying34 qG fZ gq gu rfl (by decide) (ds:=[(aN zK [] [aN nY [] (lN ze i.data.toList qZ)]).d]) (rows:=[[.string ⟨#[116,104,101,97,100]⟩,.string ⟨#[]⟩,.slice none 0 0,.slice (some ⟨f,0,none⟩) 1 1]]) (v:=.slice (some ⟨g,0,none⟩) 1 1) (P:=fun b=>W0.heap.size<=b/\b≠q/\b≠g) (Fh rM.out.cg rfl) (Nat.le_of_lt rM.out.cg.lt) (aP.one rM.out.rd) (by simp) (fun b hb e=>hb.2.2 (Zq e)) (aN ⟨#[116,98,111,100,121]⟩ [] (rs.map (kJ vL i))).d [.string ⟨#[116,98,111,100,121]⟩,.string ⟨#[]⟩,.slice none 0 0,.slice av m cv] (XD.out.weaken (fun b hb=>⟨jh3 Ql.out hb,by have:=Xo.out;omega,by have:=HG1.out;omega⟩)) rfl Ev rfl (by decide) (by decide) rfl rfl ?_;intro a5 c5 w5 Im hg5;have hgb:(Value.slice (some ⟨g,0,none⟩) 1 1).ownBlock=some g:=rfl;rw [hgb] at hg5 Im;have q5:CB 43 q [.string ⟨#[116,97,98,108,101]⟩,.string ⟨#[]⟩,.slice none 0 0,.slice (some ⟨g,0,none⟩) 1 1] w5:=(hg5.block q (by simp;have:=rM.out.cq.lt;omega) (fun e=>rM.out.hg.2 (jh9 e).symm)).trans ((jhk w3 _ q rM.out.cq.lt).trans rM.out.cq);have S5:w5.cell? ⟨q,3,none⟩=some (.slice (some ⟨g,0,none⟩) 1 1):=q5.cell 3 _ rfl;have fz:=nR q5;have Zu:jk4 W0.heap.size w3 w5:=((jh1 _ w3).alloc rM.out.aL.size _).grown hg5 (by simp;have:=rM.out.aL.size;omega) (fun x hx=>by have:=jh9 hx;have:=rM.out.hg.1;omega);have tY:=hid (rM.out.aL.trans Zu);have Ov:=hid Im;have Ho:=hid q5;have hq3:q<w3.heap.size:=rM.out.cq.lt;clear Im hg5 hgb Zu XD q5;refine hK.out _ _ (fun _=>S5) (fun hH2=>?_);clear hK KQ hH;have hH:=hH2 (by decide);clear hH2;try simp only [Act.put,jgq,jgx,jgz]
      refine lY (i:=6) rfl (by kernel_rfl) (fun KQ hK=>?_);go_simp;refine hK.out _ _ (fun _=>S5) (fun hH2=>?_);clear hK KQ hH;have hH:=hH2 (by decide);clear hH2;try simp only [Act.put,jgq,jgx,jgz]
      refine lY (i:=7) rfl (by kernel_rfl) (fun KQ hK=>?_);go_simp;refine hK.out _ _ (fun h=>absurd rfl h) (fun _=>?_);clear hK KQ;refine Tj (by kernel_rfl) ?_ _;obtain ⟨w6,dK⟩:∃ w6,w6=w5.setCell ⟨q,3,none⟩ (.slice a5 (1+1) c5):=⟨_,rfl⟩;try simp only [Nat.reduceAdd] at dK
      rw [<- dK];have HQ:Hid (CB 43 q [.string ⟨#[116,97,98,108,101]⟩,.string ⟨#[]⟩,.slice none 0 0,.slice a5 2 c5] w6):=by rw [dK];exact pO Ho.out 3 _
      have BL:jk4 W0.heap.size W0 w6:=by rw [dK];exact tY.out.setCell zL.out.hq _
      have QS:Hid (gP (W0.heap.size<=·) w6 [] [aN zK [] [aN nY [] (lN ze i.data.toList qZ)],aN mh [] (rs.map (kJ vL i))] (.slice none 0 0) (.slice a5 2 c5)):=⟨Rd.ay _ _ _,by
       rw [dK];refine Rd.keep (fun b hb hlt=>⟨?_,Below.heap_setCell w5 ⟨q,3,none⟩ _ b ?_⟩) _ _ Ov.out
       ·rcases hb with hb | hb | hb
        ·exact hb.1
        ·have:=jh9 hb;have:=zL.out.hg.1;omega
        ·have:=rM.out.aL.size;omega
       ·show b≠q;rcases hb with hb | hb | hb
        ·exact hb.2.1
        ·have:=jh9 hb;have:=zL.out.hg.2;omega
        ·omega⟩
      clear dK Ov S3 S5 fz hH;obtain ⟨x0,x1,x2,x3,xf⟩:=dW (K1.out.below BL);obtain ⟨y0,y1,y2,y3,-⟩:=YD HQ.out;go_upto_region 10 with (fail)
      obtain ⟨w9,aO⟩:∃ w9,w9=bU w6 (S+1) (.string ⟨#[116,97,98,108,101]⟩) (.string ⟨#[]⟩) (.slice none 0 0) (.slice a5 2 c5):=⟨_,rfl⟩;have hf:=iZ ⟨#[116,97,98,108,101]⟩ ⟨#[]⟩ [] ([aN zK [] [aN nY [] (lN ze i.data.toList qZ)],aN mh [] (rs.map (kJ vL i))]) Hl.out Z0.out B0.out K1.out BL QS.out;rw [<- aO] at hf;have iW:=hid hf.1;have Cu:=hid hf.2;clear hf;have hw8:=aO;simp only [bU] at hw8;clear aO;go_wp2;rw [<- hw8];have r0:=iW.out.cell 0 _ rfl;have r1:=iW.out.cell 1 _ rfl;have r2:=iW.out.cell 2 _ rfl;have r3:=iW.out.cell 3 _ rfl;exact bodyPost_ret (v:=.agg #[.string ⟨#[116,97,98,108,101]⟩,.string ⟨#[]⟩,.slice none 0 0,.slice a5 2 c5]) (by simp [results,Tryz.results160,go_sem,r0,r1,r2,r3]) rfl (by rw [Wp.out];exact Cu.out)
  ·obtain ⟨ck2,Zv⟩:∃ ck2,ck2=ck-1:=⟨_,rfl⟩;go_upto_region 4 with (fail)
   rw [<- hnr,<- Zv];have hcc:nr<=ck2:=by omega
   clear hnr e10 Zv hck
   go_loopw [4,22] (fun v vi wr=>Db w1 i rs v vi wr) (fun _ vi _=>nr-(intOf vi).toNat)
   case atStart=>exact R0.out
   case round=>
    clear R0;obtain ⟨j,rows,hj,rfl,hrow⟩:=hrel;obtain ⟨ds,hds⟩:∃ ds,ds=((rs.take j).map (kJ vL i)).map Nd.d:=⟨_,rfl⟩;rw [<- hds] at hrow;obtain ⟨m,hm⟩:∃ m,m=ds.length:=⟨_,rfl⟩;have hmj:m<=1000000:=by have h2:(rs.take j).length<=rs.length:=List.length_take_le' _ _;rw [hm,hds,jh7,jh7];have:=Fj.out;omega
    obtain ⟨av,cv,rfl,-,-⟩:=hrow.cap hm.symm;have HM:=hid hm.symm;have vG:=hid hds;have aV:=hid hrow;clear hrow hm hds;by_cases hlt:j<nr
    ·obtain ⟨y,hy⟩:∃ y,rs[j]?=some y:=⟨_,List.getElem?_eq_getElem (by have:=Fj.out;omega)⟩;have hsn:=lZ (kJ vL i) rs j y hy;have hw:=WZ.out y (List.mem_of_getElem? hy);obtain ⟨yk,EN,yi,yt,yd,EO,DJ,uX,EP⟩:=y;have hw:EP.length=i.size/\EP.length<=1000000/\∀ c∈EP,Yx c.nX:=hw;obtain ⟨g2,off2,vc,vp,vl,vk,hge,hok2,Wq,hc2,hR2⟩:=iF (k:=j+1) HS2.out (show (au.mk xk RD xi xt xd RG RH Xq qZ::rs)[j+1]?=some (.mk yk EN yi yt yd EO DJ uX EP) by simpa using hy);obtain ⟨rfl,rfl⟩:ga=g2/\off=off2:=by simpa using hge
     have hbr:jk4 W0.heap.size W0 wr:=HJ.out.aL.trans (aV.out.aL.mono HJ.out.aL.size);have hc2:dR W0 ga (off+11+j*11) yk EN yi yt yd EO DJ.id vc vp vl vk:=by rw [show off+11+j*11=off+(j+1)*11 by omega];exact hc2
     obtain ⟨c0,c1,c2,c3,c4,c5,c6,c7,c8,c9,c10⟩:=hc2.at2 (w':=wr) (hbr.block ga hbl);obtain ⟨JH,JI,JJ,rfl⟩:=Rd.ah hR2.at_.cls
     obtain ⟨JK,JL,JM,rfl⟩:=Rd.ah hR2.at_.aF
     obtain ⟨l6,l7,l8,rfl⟩:=Rd.ah hR2.line;obtain ⟨JO,JQ,JR,rfl⟩:=Rd.ah hR2.kids;have RC2:Hid (∀ w':jk3,jk4 W0.heap.size W0 w'->Calls Tryz.prog 201 #[.agg #[.int .i64 yk,.int .i64 EN,.string yi,.string yt,.string yd,.string EO,.string DJ.id,.slice JH JI JJ,.slice JK JL JM,.slice l6 l7 l8,.slice JO JQ JR],.string ⟨#[116,100]⟩,.string i] w' (jB w' (aN nY [] (lN vL i.data.toList EP)))):=fun w' hb=>
      ER yk EN yi yt yd EO DJ uX EP _ _ _ _ vL i w' (je.EK hR2 (fun b (hb':b<S) hlt=>⟨by show b<w'.heap.size;have:=hb.size;omega,hb.block b (by omega)⟩)) hw.1 hw.2.1 hw.2.2
     have iE:=hid (show ((rs.take (j+1)).map (kJ vL i)).map Nd.d=ds++[(aN nY [] (lN vL i.data.toList EP)).d] by rw [hsn,List.map_append,vG.out];rfl);have HBR:=hid hbr;clear hy hsn hw hge hok2 Wq hc2 hR2 hbr;go_upto_region 6 with (fail)
     obtain ⟨p,hp⟩:∃ p,p=wr.heap.size:=⟨_,rfl⟩;obtain ⟨wA,gN⟩:∃ wA,wA=wr.alloc (.cells #[.int .i64 yk,.int .i64 EN,.string yi,.string yt,.string yd,.string EO,.string DJ.id,.slice JH JI JJ,.slice JK JL JM,.slice l6 l7 l8,.slice JO JQ JR] 30):=⟨_,rfl⟩;have PA:CB 30 p [.int .i64 yk,.int .i64 EN,.string yi,.string yt,.string yd,.string EO,.string DJ.id,.slice JH JI JJ,.slice JK JL JM,.slice l6 l7 l8,.slice JO JQ JR] wA:=by rw [gN,hp];exact CB.new _ _ wr
     have bA:jk4 wr.heap.size wr wA:=by rw [gN];exact (jh1 _ _).alloc (jh2 _) _
     rw [<- gN,<- hp];have BA:=hid bA;have Xc:jk4 W0.heap.size W0 wA:=HBR.out.trans (bA.mono HBR.out.size);obtain ⟨e2,-,-⟩:=CX.out wA Xc;have d0:=PA.cell 0 _ rfl;have d1:=PA.cell 1 _ rfl;have d2:=PA.cell 2 _ rfl;have d3:=PA.cell 3 _ rfl;have d4:=PA.cell 4 _ rfl;have d5:=PA.cell 5 _ rfl;have d6:=PA.cell 6 _ rfl;have d7:=PA.cell 7 _ rfl;have d8:=PA.cell 8 _ rfl;have d9:=PA.cell 9 _ rfl;have d10:=PA.cell 10 _ rfl;have YB:=hid (RC2.out wA Xc);have hpw:wr.heap.size<=wA.heap.size:=bA.size;clear gN hp c0 c1 c2 c3 c4 c5 c6 c7 c8 c9 c10 PA bA Xc RC2;go_wp2_with fail
     (with_reducible refine YB.out.mono ?_)
     rintro e w2 ⟨va,vk,he,hR2,hb2⟩;obtain ⟨aA,nA,cA,rfl⟩:=Rd.ah hR2.at_
     obtain ⟨aK,nK,cK,rfl⟩:=Rd.ah hR2.ks;have he:e=.returned (.agg #[.string nY,.string ⟨#[]⟩,.slice aA nA cA,.slice aK nK cK]):=he;subst he;have U2:=hid ((aV.out.below BA.out).below hb2);have XD:=hid ((Nd.fJ nY ⟨#[]⟩ hR2).weaken (ok':=fun b=>False\/wr.heap.size<=b) (fun b hb=>.inr (jh3 hpw hb)));clear YB hR2 hb2 d0 d1 d2 d3 d4 d5 d6 d7 d8 d9 d10 e2;go_wp2_with (at_builtin;refine MZ rfl _ _ 34 rfl iN _ 80 Tryz.underlying34 qG fZ gq gu rfl (by decide) U2.out (fun _=>False.elim) (aN nY [] (lN vL i.data.toList EP)).d [.string nY,.string ⟨#[]⟩,.slice aA nA cA,.slice aK nK cK] XD.out rfl Ev HM.out (by omega) (by decide) rfl rfl ?_)
     intro a' c' w5 hrow hg5;have HF:Hid (Db w1 i rs (.slice a' (m+1) c') (.int .i64 ((j+1:Nat):Int)) w5):=⟨j+1,_,by have:=Fj.out;omega,rfl,by rw [iE.out];exact hrow⟩;clear hrow hg5 XD U2 aV;go_wp2;go_roundw;case rel=>exact HF.out
     case measure=>simp [intOf];omega
    ·have hkl:j=nr:=by have:=Fj.out;omega
     have hjr:j=rs.length:=by have:=Fj.out;omega
     have HNV:Hid (Rd (w1.heap.size<=·) wr (bS (rs.map (kJ vL i))) [.slice av m cv]):=by have h:=aV.out.cu;rw [vG.out,hjr,List.take_length] at h;exact h
     have zL:=hid (HJ.out.far aV.out.aL);have Ql:Hid (W0.heap.size<=w1.heap.size):=HJ.out.aL.size;have Xo:Hid (q<w1.heap.size):=HJ.out.cq.lt;have HG1:Hid (g<w1.heap.size):=HJ.out.cg.lt;by_cases hm0:m=0
     ·have HE:Hid (rs=[]):=by
       have:=HM.out;rw [vG.out,hjr] at this;simp at this;exact List.length_eq_zero_iff.1 (by omega)
      subst hm0;have BL:=zL.out.aL;have HQ:=hid zL.out.cq;have QS:Hid (gP (W0.heap.size<=·) wr [] [aN zK [] [aN nY [] (lN ze i.data.toList qZ)]] (.slice none 0 0) (.slice (some ⟨g,0,none⟩) 1 1)):=⟨Rd.ay _ _ _,Rd.ig (l:=[(aN zK [] [aN nY [] (lN ze i.data.toList qZ)]).d]) (rows:=[[.string ⟨#[116,104,101,97,100]⟩,.string ⟨#[]⟩,.slice none 0 0,.slice (some ⟨f,0,none⟩) 1 1]]) (Fh zL.out.cg rfl) (aP.one (zL.out.rd.weaken (fun b hb=>hb.1))) (by simp) (fun b hb=>by
       have e1:g=b:=by simpa [Value.ownBlock] using hb
       rw [<- e1];exact zL.out.hg.1)⟩
      have Wp:Hid (dZ i (au.mk xk RD xi xt xd RG RH Xq qZ::rs)=aN oh [] [aN zK [] [aN nY [] (lN ze i.data.toList qZ)]]):=by show _=_;rw [HE.out];rfl
      obtain ⟨x0,x1,x2,x3,xf⟩:=dW (K1.out.below BL);obtain ⟨y0,y1,y2,y3,-⟩:=YD HQ.out;go_upto_region 10 with (fail)
      obtain ⟨w9,aO⟩:∃ w9,w9=bU wr (S+1) (.string ⟨#[116,97,98,108,101]⟩) (.string ⟨#[]⟩) (.slice none 0 0) (.slice (some ⟨g,0,none⟩) 1 1):=⟨_,rfl⟩;have hf:=iZ ⟨#[116,97,98,108,101]⟩ ⟨#[]⟩ [] ([aN zK [] [aN nY [] (lN ze i.data.toList qZ)]]) Hl.out Z0.out B0.out K1.out BL QS.out;rw [<- aO] at hf;have iW:=hid hf.1;have Cu:=hid hf.2;clear hf;have hw8:=aO;simp only [bU] at hw8;clear aO;go_wp2;rw [<- hw8];have r0:=iW.out.cell 0 _ rfl;have r1:=iW.out.cell 1 _ rfl;have r2:=iW.out.cell 2 _ rfl;have r3:=iW.out.cell 3 _ rfl;exact bodyPost_ret (v:=.agg #[.string ⟨#[116,97,98,108,101]⟩,.string ⟨#[]⟩,.slice none 0 0,.slice (some ⟨g,0,none⟩) 1 1]) (by simp [results,Tryz.results160,go_sem,r0,r1,r2,r3]) rfl (by rw [Wp.out];exact Cu.out)
     ·have hm1:0<m:=by omega
      have HE:Hid (rs.isEmpty=false):=by
       show _=_;cases hrs:rs with
       | nil=>
        have:=HM.out;rw [vG.out,hrs] at this;simp at this;omega
       | cons _ _=>rfl
      have S0:wr.drew.cell? ⟨q,3,none⟩=some (.slice (some ⟨g,0,none⟩) 1 1):=zL.out.cq.cell 3 _ rfl;have Wp:Hid (dZ i (au.mk xk RD xi xt xd RG RH Xq qZ::rs)=aN oh [] [aN zK [] [aN nY [] (lN ze i.data.toList qZ)],aN mh [] (rs.map (kJ vL i))]):=by show aN oh [] (aN zK [] [aN nY [] (lN ze i.data.toList qZ)]::if rs.isEmpty=true then [] else [aN mh [] (rs.map (kJ vL i))])=_;rw [HE.out];rfl
      clear hkl hjr hm0;go_upto_region 9 with (fail)
      refine Ti 7 (fun w'=>w'.cell? ⟨q,3,none⟩=some (.slice (some ⟨g,0,none⟩) 1 1)) (by kernel_rfl) S0 ?_;intro hH;refine jA (i:=0) (v:=?_) rfl (by kernel_rfl) (by kernel_rfl) (by kernel_rfl) (by kernel_rfl) (fun _ _ _ h=>h) hH (Or.inl ⟨by rfl,?_⟩) ?_;rotate_left
      ·(intro wv hSw;(try dsimp only at hSw);go_simp;try with_reducible rfl)
      try simp only [Act.put,jgq,jgx,jgz]
      refine jA (i:=1) (v:=?_) rfl (by kernel_rfl) (by kernel_rfl) (by kernel_rfl) (by kernel_rfl) (fun _ _ _ h=>h) hH (Or.inl ⟨by rfl,?_⟩) ?_;rotate_left
      ·(intro wv hSw;(try dsimp only at hSw);go_simp;try with_reducible rfl)
      try simp only [Act.put,jgq,jgx,jgz]
      refine jA (i:=2) (v:=?_) rfl (by kernel_rfl) (by kernel_rfl) (by kernel_rfl) (by kernel_rfl) (fun _ _ _ h=>h) hH (Or.inl ⟨by rfl,?_⟩) ?_;rotate_left
      ·(intro wv hSw;(try dsimp only at hSw);go_simp;try with_reducible rfl)
      try simp only [Act.put,jgq,jgx,jgz]
      refine lY (i:=3) rfl (by kernel_rfl) (fun KQ hK=>?_);go_simp;go_at_call 57
      (with_reducible refine (iR ⟨#[116,98,111,100,121]⟩ none av 0 m 0 cv _).mono ?_)
      rintro e w3 ⟨rfl,b3⟩;have B3:jk4 wr.heap.size wr w3:=((jh1 _ _).drew).trans b3;have rM:=hid (zL.out.far B3);have S3:w3.cell? ⟨q,3,none⟩=some (.slice (some ⟨g,0,none⟩) 1 1):=rM.out.cq.cell 3 _ rfl;have XD:=hid (show Rd (fun b=>w1.heap.size<=b) w3 (aN ⟨#[116,98,111,100,121]⟩ [] (rs.map (kJ vL i))).d [.string ⟨#[116,98,111,100,121]⟩,.string ⟨#[]⟩,.slice none 0 0,.slice av m cv] from Nd.fJ ⟨#[116,98,111,100,121]⟩ ⟨#[]⟩ ⟨Rd.ay _ _ _,HNV.out.aW B3⟩);have HB3:=hid B3;clear b3 B3 S0;refine hK.out _ _ (fun _=>S3) (fun hH2=>?_);clear hK KQ hH;have hH:=hH2 (by decide);clear hH2;try simp only [Act.put,jgq,jgx,jgz]
      refine lY (i:=4) rfl (by kernel_rfl) (fun KQ hK=>?_);go_simp;refine hK.out _ _ (fun _=>past S3 _) (fun hH2=>?_);clear hK KQ hH;have hH:=hH2 (by decide);clear hH2;try simp only [Act.put,jgq,jgx,jgz]
      refine lY (i:=5) rfl (by kernel_rfl) (fun KQ hK=>?_);refine AU (n:=1) rfl (.tmp 38) (.tmp 41) 34 rfl iN _ 80 Tryz.underlying34 qG fZ gq gu rfl (by decide) (ds:=[(aN zK [] [aN nY [] (lN ze i.data.toList qZ)]).d]) (rows:=[[.string ⟨#[116,104,101,97,100]⟩,.string ⟨#[]⟩,.slice none 0 0,.slice (some ⟨f,0,none⟩) 1 1]]) (v:=.slice (some ⟨g,0,none⟩) 1 1) (P:=fun b=>W0.heap.size<=b/\b≠q/\b≠g) (Fh rM.out.cg rfl) (Nat.le_of_lt rM.out.cg.lt) (aP.one rM.out.rd) (by simp) (fun b hb e=>hb.2.2 (Zq e)) (aN ⟨#[116,98,111,100,121]⟩ [] (rs.map (kJ vL i))).d [.string ⟨#[116,98,111,100,121]⟩,.string ⟨#[]⟩,.slice none 0 0,.slice av m cv] (XD.out.weaken (fun b hb=>⟨jh3 Ql.out hb,by have:=Xo.out;omega,by have:=HG1.out;omega⟩)) rfl Ev rfl (by decide) (by decide) rfl rfl ?_;intro a5 c5 w5 Im hg5;have hgb:(Value.slice (some ⟨g,0,none⟩) 1 1).ownBlock=some g:=rfl;rw [hgb] at hg5 Im;have q5:CB 43 q [.string ⟨#[116,97,98,108,101]⟩,.string ⟨#[]⟩,.slice none 0 0,.slice (some ⟨g,0,none⟩) 1 1] w5:=(hg5.block q (by simp;have:=rM.out.cq.lt;omega) (fun e=>rM.out.hg.2 (jh9 e).symm)).trans ((jhk w3 _ q rM.out.cq.lt).trans rM.out.cq);have S5:w5.cell? ⟨q,3,none⟩=some (.slice (some ⟨g,0,none⟩) 1 1):=q5.cell 3 _ rfl;have fz:=nR q5;have Zu:jk4 W0.heap.size w3 w5:=((jh1 _ w3).alloc rM.out.aL.size _).grown hg5 (by simp;have:=rM.out.aL.size;omega) (fun x hx=>by have:=jh9 hx;have:=rM.out.hg.1;omega);have tY:=hid (rM.out.aL.trans Zu);have Ov:=hid Im;have Ho:=hid q5;have hq3:q<w3.heap.size:=rM.out.cq.lt;clear Im hg5 hgb Zu XD q5;refine hK.out _ _ (fun _=>S5) (fun hH2=>?_);clear hK KQ hH;have hH:=hH2 (by decide);clear hH2;try simp only [Act.put,jgq,jgx,jgz]
      refine lY (i:=6) rfl (by kernel_rfl) (fun KQ hK=>?_);go_simp;refine hK.out _ _ (fun _=>S5) (fun hH2=>?_);clear hK KQ hH;have hH:=hH2 (by decide);clear hH2;try simp only [Act.put,jgq,jgx,jgz]
      refine lY (i:=7) rfl (by kernel_rfl) (fun KQ hK=>?_);go_simp;refine hK.out _ _ (fun h=>absurd rfl h) (fun _=>?_);clear hK KQ;refine Tj (by kernel_rfl) ?_ _;obtain ⟨w6,dK⟩:∃ w6,w6=w5.setCell ⟨q,3,none⟩ (.slice a5 (1+1) c5):=⟨_,rfl⟩;try simp only [Nat.reduceAdd] at dK
      rw [<- dK];have HQ:Hid (CB 43 q [.string ⟨#[116,97,98,108,101]⟩,.string ⟨#[]⟩,.slice none 0 0,.slice a5 2 c5] w6):=by rw [dK];exact pO Ho.out 3 _
      have BL:jk4 W0.heap.size W0 w6:=by rw [dK];exact tY.out.setCell zL.out.hq _
      have QS:Hid (gP (W0.heap.size<=·) w6 [] [aN zK [] [aN nY [] (lN ze i.data.toList qZ)],aN mh [] (rs.map (kJ vL i))] (.slice none 0 0) (.slice a5 2 c5)):=⟨Rd.ay _ _ _,by
       rw [dK];refine Rd.keep (fun b hb hlt=>⟨?_,Below.heap_setCell w5 ⟨q,3,none⟩ _ b ?_⟩) _ _ Ov.out
       ·rcases hb with hb | hb | hb
        ·exact hb.1
        ·have:=jh9 hb;have:=zL.out.hg.1;omega
        ·have:=rM.out.aL.size;omega
       ·show b≠q;rcases hb with hb | hb | hb
        ·exact hb.2.1
        ·have:=jh9 hb;have:=zL.out.hg.2;omega
        ·omega⟩
      clear dK Ov S3 S5 fz hH;obtain ⟨x0,x1,x2,x3,xf⟩:=dW (K1.out.below BL);obtain ⟨y0,y1,y2,y3,-⟩:=YD HQ.out;go_upto_region 10 with (fail)
      obtain ⟨w9,aO⟩:∃ w9,w9=bU w6 (S+1) (.string ⟨#[116,97,98,108,101]⟩) (.string ⟨#[]⟩) (.slice none 0 0) (.slice a5 2 c5):=⟨_,rfl⟩;have hf:=iZ ⟨#[116,97,98,108,101]⟩ ⟨#[]⟩ [] ([aN zK [] [aN nY [] (lN ze i.data.toList qZ)],aN mh [] (rs.map (kJ vL i))]) Hl.out Z0.out B0.out K1.out BL QS.out;rw [<- aO] at hf;have iW:=hid hf.1;have Cu:=hid hf.2;clear hf;have hw8:=aO;simp only [bU] at hw8;clear aO;go_wp2;rw [<- hw8];have r0:=iW.out.cell 0 _ rfl;have r1:=iW.out.cell 1 _ rfl;have r2:=iW.out.cell 2 _ rfl;have r3:=iW.out.cell 3 _ rfl;exact bodyPost_ret (v:=.agg #[.string ⟨#[116,97,98,108,101]⟩,.string ⟨#[]⟩,.slice none 0 0,.slice a5 2 c5]) (by simp [results,Tryz.results160,go_sem,r0,r1,r2,r3]) rfl (by rw [Wp.out];exact Cu.out)
open Go.RowKit
theorem J2 {ok:Nat->Prop} {w:jk3} {x y:Nd} {c0 c1 c2 c3 d0 d1 d2 d3:jk5} (hm:ok w.heap.size) (hx:Rd ok w x.d [c0,c1,c2,c3]) (hy:Rd ok w y.d [d0,d1,d2,d3]) : Rd ok (w.alloc (.cells #[c0,c1,c2,c3,d0,d1,d2,d3] 43)) (bS [x,y]) [.slice (some ⟨w.heap.size,0,none⟩) 2 2]:=by
 have hb:jk4 w.heap.size w (w.alloc (.cells #[c0,c1,c2,c3,d0,d1,d2,d3] 43)):=(jh1 _ _).alloc (jh2 _) _;have k:CB 43 w.heap.size [c0,c1,c2,c3,d0,d1,d2,d3] (w.alloc (.cells #[c0,c1,c2,c3,d0,d1,d2,d3] 43)):=CB.new _ _ w;have kp:∀ {d:D} {cs:List jk5},Rd ok w d cs->Rd ok (w.alloc (.cells #[c0,c1,c2,c3,d0,d1,d2,d3] 43)) d cs:=fun h=>Rd.keep (fun b hb' hlt=>⟨hb',hb.block b hlt⟩) _ _ h
 exact Rd.slB (l:=[x,y].map Nd.d) (rows:=[[c0,c1,c2,c3],[d0,d1,d2,d3]]) (by simp) (by unfold maxLen;decide) (aP.cons (kp hx) (aP.one (kp hy))) (by simp) hm k.lt (fun j u hu=>k.cell j u (by simpa using hu))
def og (w:jk3) (E:Nat) (x:Nd) (e:Ending) (w':jk3):Prop:=
 ∃ va vk,e=.returned (.tuple #[.agg #[.string x.nm,.string x.tx,va,vk],.int .i64 (E:Int)])/\gP (w.heap.size<=·) w' x.at_ x.ks va vk/\jk4 w.heap.size w w'
theorem og.of {w w':jk3} {E:Nat} {E':Int} {x:Nd} {v:jk5} (h:jB w x (.returned v) w') (hE:E'=(E:Int)):og w E x (.returned (.tuple #[v,.int .i64 E'])) w':=by
 obtain ⟨va,vk,he,h1,h2⟩:=h;subst hE;injection he with he
 subst he;exact ⟨va,vk,rfl,h1,h2⟩
end Go.Proofs.YtclikfjalmcoaaaGreatDoor

