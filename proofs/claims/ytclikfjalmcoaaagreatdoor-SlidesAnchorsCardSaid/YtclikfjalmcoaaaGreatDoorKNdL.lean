/- Contract of html.table: the node of a table. A literal of two nodes; what Page leaves. -/
import Derived.Test.YtclikfjalmcoaaaGreatDoorKHtR
set_option maxHeartbeats 8000000
set_option maxRecDepth 100000
open Go.Lib (hid)
namespace Go.Proofs.YtclikfjalmcoaaaGreatDoor
open List renaming setIfInBounds_toArray->ji3,set_cons_zero->ji4,set_cons_succ->ji5,length_map->jix
open Go.RowKit.Below renaming refl->ji7,heap_alloc->jj2
open Nat renaming le_refl->ji8
open Option.some renaming inj->jj0
open Go renaming World->jl9,Value->jlk
open Go.RowKit renaming Below->jlj
open Go.RowKit
set_option linter.unusedVariables false
set_option linter.unusedSimpArgs false
structure TbW (i:ByteArray) (ks:List ah):Prop where
 ne:ks≠[]
 len:ks.length<=900000
 row:∀ r∈ks,r.kids.length=i.size/\r.kids.length<=1000000/\∀ c∈r.kids,Yh c.mh
theorem j6.DJ {ok ok':Nat->Prop} {w w':jl9} {a:At} {li:List aj} {ks:List ah} {vc vp vl vk:jlk} (h:j6 ok w a li ks vc vp vl vk) (hs:zB ok ok' w w'):j6 ok' w' a li ks vc vp vl vk:=
 ⟨⟨Rd.keep hs _ _ h.at_.cls,Rd.keep hs _ _ h.at_.aR⟩,Rd.keep hs _ _ h.line,Rd.keep hs _ _ h.kids⟩
structure zo (W0:jl9) (q:Option Nat) (w:jl9) (d:D) (vs:List jlk):Prop where
 aT:jlj W0.heap.size W0 w
 cb:∀ p,q=some p->W0.heap.size<=p/\CB 43 p jI w
 rd:Rd (fun b=>W0.heap.size<=b/\some b≠q) w d vs
theorem zo.far {W0 w w':jl9} {q:Option Nat} {d:D} {vs:List jlk} (h:zo W0 q w d vs) (hb:jlj w.heap.size w w'):zo W0 q w' d vs:=
 ⟨h.aT.trans (hb.mono h.aT.size),fun p hp=>⟨(h.cb p hp).1,(h.cb p hp).2.below hb⟩,h.rd.bq hb⟩
theorem zo.nd {W0 w w':jl9} {q:Option Nat} {d d':D} {vs vs':List jlk} (h:zo W0 q w d vs) (hb:jlj w.heap.size w w') (hr:Rd (w.heap.size<=·) w' d' vs'):zo W0 q w' d' vs':=
 ⟨(h.far hb).aT,(h.far hb).cb,hr.weaken (fun b hk=>⟨Nat.le_trans h.aT.size hk,fun e=>by have:=(h.cb b e.symm).2.lt;omega⟩)⟩
theorem zo.zero {W0 w:jl9} {d:D} {vs:List jlk} (h:zo W0 none w d vs):zo W0 (some w.heap.size) (w.alloc (.cells #[.string ⟨#[]⟩,.string ⟨#[]⟩,.slice none 0 0,.slice none 0 0] 43)) d vs:=by refine ⟨h.aT.alloc h.aT.size _,fun p hp=>?_,Rd.keep (fun b hb hlt=>⟨⟨hb.1,fun e=>by have:=jj0 e;omega⟩,jj2 w _ b hlt⟩) _ _ h.rd⟩;obtain rfl:=jj0 hp;exact ⟨h.aT.size,CB.new _ jI w⟩
theorem Np {w:jl9} {g:Nat} {cs:List jlk} (h:CB 43 g cs w) (hl:cs.length=4):w.ownsRow g 43 4 (.slice (some ⟨g,0,none⟩) 1 1) 1 ([cs]:List (List jlk)).flatten:=by
 refine ⟨by simp [hl],.inr ⟨g,1,cs.toArray,rfl,ji8 _,h,by simp,by unfold maxLen;omega,?_,?_⟩⟩
 ·simp [hl]
 ·rw [<- hl];simp
theorem zo.lit {W0 w:jl9} {q:Option Nat} {x:Nd} {c0 c1 c2 c3:jlk} (h:zo W0 q w x.d [c0,c1,c2,c3]):zo W0 q (w.alloc (.cells #[c0,c1,c2,c3] 43)) (cZ [x]) [.slice (some ⟨w.heap.size,0,none⟩) 1 1]:=by
 have hb:jlj w.heap.size w (w.alloc (.cells #[c0,c1,c2,c3] 43)):=(ji7 _ _).alloc (ji8 _) _;have h2:=h.far hb;refine ⟨h2.aT,h2.cb,Rd.lu (l:=[x.d]) (rows:=[[c0,c1,c2,c3]]) (Np (CB.new _ [c0,c1,c2,c3] w) rfl) (aP.one h2.rd) (by simp) (fun g hg=>?_)⟩;have e1:w.heap.size=g:=by simpa [Value.ownBlock] using hg
 exact ⟨by rw [<- e1];exact h.aT.size,fun e=>by have:=(h.cb g e.symm).2.lt;omega⟩
theorem zo.el {W0 w w':jl9} {q:Option Nat} {ks:List Nd} {v:jlk} (h:zo W0 q w (cZ ks) [v]) (hb:jlj w.heap.size w w') (n:ByteArray):zo W0 q w' (aV n [] ks).d [.string n,.string ⟨#[]⟩,.slice none 0 0,v]:=
 ⟨(h.far hb).aT,(h.far hb).cb,Nd.eD n ⟨#[]⟩ ⟨Rd.aF _ _ _,(h.far hb).rd⟩⟩
structure QT (W0:jl9) (q:Option Nat) (g:Nat) (w:jl9) (d:D) (cs:List jlk):Prop where
 aT:jlj W0.heap.size W0 w
 cb:∀ p,q=some p->W0.heap.size<=p/\CB 43 p jI w
 hg:W0.heap.size<=g/\some g≠q
 cg:CB 43 g cs w
 rd:Rd (fun b=>(W0.heap.size<=b/\some b≠q)/\b≠g) w d cs
theorem QT.far {W0 w w':jl9} {q:Option Nat} {g:Nat} {d:D} {vs:List jlk} (h:QT W0 q g w d vs) (hb:jlj w.heap.size w w'):QT W0 q g w' d vs:=
 ⟨h.aT.trans (hb.mono h.aT.size),fun p hp=>⟨(h.cb p hp).1,(h.cb p hp).2.below hb⟩,h.hg,h.cg.below hb,h.rd.bq hb⟩
theorem QT.zero {W0 w:jl9} {g:Nat} {d:D} {vs:List jlk} (h:QT W0 none g w d vs):QT W0 (some w.heap.size) g (w.alloc (.cells #[.string ⟨#[]⟩,.string ⟨#[]⟩,.slice none 0 0,.slice none 0 0] 43)) d vs:=by refine ⟨h.aT.alloc h.aT.size _,fun p hp=>?_,⟨h.hg.1,fun e=>by have:=jj0 e;have:=h.cg.lt;omega⟩,h.cg.below ((ji7 _ _).alloc (ji8 _) _),Rd.keep (fun b hb hlt=>⟨⟨⟨hb.1.1,fun e=>by have:=jj0 e;omega⟩,hb.2⟩,jj2 w _ b hlt⟩) _ _ h.rd⟩;obtain rfl:=jj0 hp;exact ⟨h.aT.size,CB.new _ jI w⟩
theorem zo.Nq {W0 w:jl9} {q:Option Nat} {x:Nd} {c0 c1 c2 c3:jlk} (h:zo W0 q w x.d [c0,c1,c2,c3]):QT W0 q w.heap.size (w.alloc (.cells #[c0,c1,c2,c3] 43)) x.d [c0,c1,c2,c3]:=by have hb:jlj w.heap.size w (w.alloc (.cells #[c0,c1,c2,c3] 43)):=(ji7 _ _).alloc (ji8 _) _;have h2:=h.far hb;exact ⟨h2.aT,h2.cb,⟨h.aT.size,fun e=>by have:=(h.cb _ e.symm).2.lt;omega⟩,CB.new _ [c0,c1,c2,c3] w,Rd.keep (fun b hk hlt=>⟨⟨hk,by omega⟩,hb.block b hlt⟩) _ _ h.rd⟩
structure Zq (W0:jl9) (q g:Nat) (w:jl9) (d:D) (cs:List jlk) (cq:List jlk):Prop where
 aT:jlj W0.heap.size W0 w
 hq:W0.heap.size<=q
 cq:CB 43 q cq w
 hg:W0.heap.size<=g/\g≠q
 cg:CB 43 g cs w
 rd:Rd (fun b=>W0.heap.size<=b/\b≠q/\b≠g) w d cs
theorem QT.put {W0 w:jl9} {g q:Nat} {d:D} {cs:List jlk} (h:QT W0 (some q) g w d cs) (c0 c1 c2 c3:jlk):Zq W0 q g (four w q c0 c1 c2 c3) d cs [c0,c1,c2,c3]:=by
 have h1:=(h.cb q rfl);have Zr:g≠q:=fun e=>h.hg.2 (by rw [e])
 exact ⟨vL h.aT h1.1 _ _ _ _,h1.1,IJ h1.2 _ _ _ _,⟨h.hg.1,Zr⟩,(gU w q c0 c1 c2 c3 g Zr).trans h.cg,Rd.keep (fun b hb hlt=>⟨⟨hb.1.1,fun e=>hb.1.2 (by rw [e]),hb.2⟩,gU w q c0 c1 c2 c3 b (fun e=>hb.1.2 (by rw [e]))⟩) _ _ h.rd⟩
theorem Zq.far {W0 w w':jl9} {q g:Nat} {d:D} {cs cq:List jlk} (h:Zq W0 q g w d cs cq) (hb:jlj w.heap.size w w'):Zq W0 q g w' d cs cq:=
 ⟨h.aT.trans (hb.mono h.aT.size),h.hq,h.cq.below hb,h.hg,h.cg.below hb,h.rd.bq hb⟩
section
variable {T:TypeId} {k:Nat} {ds:List D} {rows:List (List jlk)} {v:jlk} {w:jl9}
theorem Kj {n:Nat} {ops:Array Oper} {o:Oper} {a:Act} {K:Act->jl9->Prop} {Q:Exit->Act->jl9->Prop} {E:Prop} (hgd:o.guard=none) (s x:Operand) (t:TypeId) (ho:o.op=.call { callee:=.builtin .append,args:=#[s,x],argTypes:=#[t,t] }) (i:TypeInfo) (z:jlk) (bytes:Nat) (ht:Tryz.prog.underlying t=some (.slice T)) (hi:Tryz.prog.info? T=some i) (hz:i.zero=some z) (hsize:i.size=k) (hby:i.bytes=bytes) (hzs:z.cells.size=k) (hsz:0<k) {B:Nat} {P:Nat->Prop} (hown:w.ownsRow B T k v ds.length rows.flatten) (hB:B<=w.heap.size) (hrd:aP P w ds rows) (hlen:∀ r∈rows,r.length=k) (hP:∀ b,P b->v.ownBlock≠some b) (d:D) (r:List jlk) (hx:Rd P w d r) (hr:r.length=k) (h1:∀ u∈r,u.oneCell'=true) (hdn:ds.length=n) (hn:n<=10000000) (kF:bytes<=1000) (hs:a.eval s=v) (hxe:a.eval x=.slice (some ⟨w.heap.size,0,none⟩) 1 1) (hK:∀ a' c' w',Rd (fun b=>P b\/v.ownBlock=some b\/w.heap.size<=b) w' (.sl k (ds++[d])) [.slice a' (n+1) c']->(w.alloc (.cells r.toArray T)).grownBy w' v.ownBlock->K (a.put o.dst (.slice a' (n+1) c')) w') : if Region.wanted o (yielded ops a.tmps)=true then Oper.wp Tryz.prog o a (w.alloc (.cells r.toArray T)) K Q else E:=by
 subst hdn;have hmul:(ds.length+1)*bytes<=140737488355328:=Nat.le_trans (Nat.mul_le_mul (show ds.length+1<=10000001 by omega) kF) (by omega);refine step_append_lies _ hgd s x t ho B T i z k bytes ht hi hz hsize hby hzs hsz v ds.length rows.flatten hs (hown.alloc _) ⟨w.heap.size,0,none⟩ 1 1 r hxe (by omega) (Po w r T) h1 (by omega) (by unfold maxLen;omega) hmul (by simp;omega) (w.heap.size+1) (by simp) ?_;intro g cap w' hown hg hat _;have hh:∀ b,P b->b<w.heap.size->w'.heap[b]?=w.heap[b]?:=fun b hb hlt=>(hg.block b (by simp;omega) (fun e=>hP b hb e.symm)).trans (jj2 w _ b hlt)
 have MU:aP (fun b=>P b\/v.ownBlock=some b\/w.heap.size<=b) w' (ds++[d]) (rows++[r]):=aP.app (aP.keep (fun b hb hlt=>⟨.inl hb,hh b hb hlt⟩) _ _ hrd) (aP.one (Rd.keep (fun b hb hlt=>⟨.inl hb,hh b hb hlt⟩) _ _ hx));have zJ:∀ q∈rows++[r],q.length=k:=fun q hq=>(List.mem_append.1 hq).elim (hlen q) (fun h=>by rw [List.mem_singleton.1 h];exact hr)
 have hown2:w'.ownsRow B T k (.slice (some ⟨g,0,none⟩) (ds.length+1) cap) (ds++[d]).length (rows++[r]).flatten:=by rw [List.length_append,List.length_singleton,List.flatten_append];simpa using hown
 refine hK _ _ w' (Rd.lu hown2 MU zJ (fun g' hg'=>?_)) hg;have e1:g=g':=by simpa [Value.ownBlock] using hg'
 subst e1;exact hat.elim (fun e=>.inr (.inl e)) (fun e=>.inr (.inr (by omega)))
end
theorem jd6 {g b n c:Nat} (h:(Value.slice (some ⟨g,0,none⟩) n c).ownBlock=some b):b=g:=by
 have e:g=b:=by simpa [Value.ownBlock] using h
 exact e.symm
def Bw (w1:jl9) (i:ByteArray) (rs:List ah) (v vi:jlk) (wr:jl9):Prop:=
 ∃ (k:Nat) (rows:List (List jlk)),k<=rs.length/\vi=.int .i64 k/\ay 43 4 (fun _=>False) wr.heap.size w1 (((rs.take k).map (jV yK i)).map Nd.d) rows v wr
theorem FR (k lv:Int) (i t d ti:ByteArray) (at_:At) (li:List aj) (ks:List ah) (vc vp vl vk:jlk) (w:jl9) (hR:j6 (·<w.heap.size) w at_ li ks vc vp vl vk) (hT:TbW i ks) : Calls Tryz.prog 160 #[.agg #[.int .i64 k,.int .i64 lv,.string i,.string t,.string d,.string ti,.string at_.id,vc,vp,vl,vk]] w (rZ w (dI i ks)):=by
 obtain ⟨ac,nc,cc,rfl⟩:=Rd.au hR.at_.cls
 obtain ⟨ap,np,cp,rfl⟩:=Rd.au hR.at_.aR
 obtain ⟨al,nl,cl,rfl⟩:=Rd.au hR.line;obtain ⟨ak,ck,hvk,hs⟩:=Rd.aG hR.kids;obtain ⟨nk,hnk⟩:∃ nk,nk=ks.length:=⟨_,rfl⟩;obtain rfl:vk=.slice ak nk ck:=by rw [hnk];simpa using hvk
 obtain ⟨x0,rs,rfl⟩:∃ x0 rs,ks=x0::rs:=by
  cases ks with
  | nil=>exact absurd rfl hT.ne
  | cons a b=>exact ⟨a,b,rfl⟩
 have hcap:nk<=ck:=by have:=hs.le;rw [jix] at this;omega
 have hmx:=hs.max;unfold maxLen at hmx;have Zt:nk=rs.length+1:=by rw [hnk,List.length_cons]
 have Yj:nk<=900000:=by have:=hT.len;omega
 obtain ⟨S,W0,hS,hW0,z0,k0,k1,b0⟩:=qN 30 w [.int .i64 k,.int .i64 lv,.string i,.string t,.string d,.string ti,.string at_.id,.slice ac nc cc,.slice ap np cp,.slice al nl cl,.slice ak nk ck];have hs2:o8 (·<S) W0 11 ((x0::rs).map ah.d) ak ck:=by subst hS;exact hs.below b0
 have hT0:=hT.row x0 (List.mem_cons_self ..);have hTR:=fun r hr=>hT.row r (List.mem_cons_of_mem _ hr)
 obtain ⟨xk,VZ,xi,xt,xd,V3,V4,xli,Ct⟩:=x0;obtain ⟨ga,off,xvc,xvp,xvl,xvk,rfl,hok,hbl,hc,hR0⟩:=eP (k:=0) hs2 rfl;obtain ⟨xac,xnc,xcc,rfl⟩:=Rd.au hR0.at_.cls
 obtain ⟨xap,xnp,xcp,rfl⟩:=Rd.au hR0.at_.aR
 obtain ⟨xal,xnl,xcl,rfl⟩:=Rd.au hR0.line;obtain ⟨xak,xnk,xck,rfl⟩:=Rd.au hR0.kids;have hc:=show dK W0 ga off xk VZ xi xt xd V3 V4.id (.slice xac xnc xcc) (.slice xap xnp xcp) (.slice xal xnl xcl) (.slice xak xnk xck) by simpa using hc
 have CX:Hid (∀ w':jl9,jlj W0.heap.size W0 w'->w'.cell? ⟨S,2,none⟩=some (.string i)/\w'.cell? ⟨S,10,none⟩=some (.slice (some ⟨ga,off,none⟩) nk ck)/\dK w' ga off xk VZ xi xt xd V3 V4.id (.slice xac xnc xcc) (.slice xap xnp xcp) (.slice xal xnl xcl) (.slice xak xnk xck)):=fun w' hb=>
  ⟨(k0.below hb).cell 2 _ rfl,(k0.below hb).cell 10 _ rfl,hc.at2 (hb.block ga hbl)⟩
 have RC:Hid (∀ w':jl9,jlj W0.heap.size W0 w'->Calls Tryz.prog 201 #[.agg #[.int .i64 xk,.int .i64 VZ,.string xi,.string xt,.string xd,.string V3,.string V4.id,.slice xac xnc xcc,.slice xap xnp xcp,.slice xal xnl xcl,.slice xak xnk xck],.string ⟨#[116,104]⟩,.string i] w' (rZ w' (aV qM [] (bg Gh i.data.toList Ct)))):=fun w' hb=>
  DY xk VZ xi xt xd V3 V4 xli Ct _ _ _ _ Gh i w' (j6.DJ hR0 (fun b (hb':b<S) hlt=>⟨by show b<w'.heap.size;have:=hb.size;omega,hb.block b (by omega)⟩)) hT0.1 hT0.2.1 hT0.2.2
 have HS2:=hid hs2;have Cy:=hid hS;have HW0:=hid hW0;have Z0:=hid z0;have B0:=hid b0;have K1:=hid k1;have Xy:=hid hTR;have Ip:=hid Zt;have jh7:0<nk:=by omega
 have jh8:(0:Int)<(nk:Int):=by omega
 clear hR hvk hs hs2 hS hW0 z0 k0 k1 b0 hc hT0 hTR hT hnk Zt hR0;go_enter Tryz.func160,Tryz.ntmps160;go_upto_region 1 with (fail)
 rw [<- Cy.out];have hk0:=HW0.out;simp only [jI] at hk0;rw [<- hk0];clear hk0
 go_cut [3] (fun s3 wx=>∃ q g f,s3=.pointer (some ⟨q,0,none⟩)/\Zq W0 q g wx (aV eZ [] [aV qM [] (bg Gh i.data.toList Ct)]).d [.string ⟨#[116,104,101,97,100]⟩,.string ⟨#[]⟩,.slice none 0 0,.slice (some ⟨f,0,none⟩) 1 1] [.string ⟨#[116,97,98,108,101]⟩,.string ⟨#[]⟩,.slice none 0 0,.slice (some ⟨g,0,none⟩) 1 1])
 case first=>
  refine SH 12 (fun w'=>jlj W0.heap.size W0 w') (by kernel_rfl) (ji7 _ _).drew ?_;intro hH;refine kT 0 (v:=?_) rfl (by kernel_rfl) hH (by rfl) ?_ ?_;rotate_left
  ·(intro wv hSw;obtain ⟨e2,e10,c0,c1,c2,c3,c4,c5,c6,c7,c8,c9,c10⟩:=CX.out wv hSw;go_simp;try with_reducible rfl)
  try simp only [Act.put,ji3,ji4,ji5]
  refine kT 1 (v:=?_) rfl (by kernel_rfl) hH (by rfl) ?_ ?_;rotate_left
  ·(intro wv hSw;obtain ⟨e2,e10,c0,c1,c2,c3,c4,c5,c6,c7,c8,c9,c10⟩:=CX.out wv hSw;go_simp;try with_reducible rfl)
  try simp only [Act.put,ji3,ji4,ji5]
  refine kT 2 (v:=?_) rfl (by kernel_rfl) hH (by rfl) ?_ ?_;rotate_left
  ·(intro wv hSw;obtain ⟨e2,e10,c0,c1,c2,c3,c4,c5,c6,c7,c8,c9,c10⟩:=CX.out wv hSw;go_simp;try with_reducible rfl)
  try simp only [Act.put,ji3,ji4,ji5]
  refine kT 3 (v:=?_) rfl (by kernel_rfl) hH (by rfl) ?_ ?_;rotate_left
  ·(intro wv hSw;obtain ⟨e2,e10,c0,c1,c2,c3,c4,c5,c6,c7,c8,c9,c10⟩:=CX.out wv hSw;go_simp;try with_reducible rfl)
  try simp only [Act.put,ji3,ji4,ji5]
  refine kT 4 (v:=?_) rfl (by kernel_rfl) hH (by rfl) ?_ ?_;rotate_left
  ·(intro wv hSw;obtain ⟨e2,e10,c0,c1,c2,c3,c4,c5,c6,c7,c8,c9,c10⟩:=CX.out wv hSw;go_simp;try with_reducible rfl)
  try simp only [Act.put,ji3,ji4,ji5]
  refine kT 5 (v:=?_) rfl (by kernel_rfl) hH (by rfl) ?_ ?_;rotate_left
  ·(intro wv hSw;obtain ⟨e2,e10,c0,c1,c2,c3,c4,c5,c6,c7,c8,c9,c10⟩:=CX.out wv hSw;go_simp;try with_reducible rfl)
  try simp only [Act.put,ji3,ji4,ji5]
  obtain ⟨y0,hy0⟩:∃ y0,y0=W0.drew:=⟨_,rfl⟩;rw [<- hy0] at hH;rw [<- hy0];clear hy0;have Zu:Hid (zo W0 none y0 (cZ []) [.slice none 0 0]):=⟨hH,fun p hp=>by simp at hp,Rd.aF _ _ _⟩;refine F8 (i:=6) (j:=11) rfl rfl (by kernel_rfl) (fun KQ hK=>?_) (fun KQ hK=>?_)
  ·go_simp;go_at_call 201
   (with_reducible refine (RC.out y0 Zu.out.aT).mono ?_)
   rintro e y1 ⟨va,vk,he,hR,hb⟩;obtain ⟨aA,nA,cA,rfl⟩:=Rd.au hR.at_
   obtain ⟨aK,nK,cK,rfl⟩:=Rd.au hR.ks;have he:e=.returned (.agg #[.string qM,.string ⟨#[]⟩,.slice aA nA cA,.slice aK nK cK]):=he;subst he;have Nr:=hid (Zu.out.nd hb (Nd.eD qM ⟨#[]⟩ hR));clear hb hR;refine hK.out _ _ (fun _ _=>Nr.out.aT) (fun hH2=>?_);clear hK KQ hH;have hH:=hH2 (by decide) (by kernel_rfl);clear hH2;try simp only [Act.put,ji3,ji4,ji5]
   clear Zu;refine F8 (i:=7) (j:=11) rfl rfl (by kernel_rfl) (fun KQ hK=>?_) (fun KQ hK=>?_)
   ·go_simp;obtain ⟨y2,hN⟩:∃ y2,y2=y1.alloc (.cells #[.string qM,.string ⟨#[]⟩,.slice aA nA cA,.slice aK nK cK] 43):=⟨_,rfl⟩;obtain ⟨f,hf⟩:∃ f,f=y1.heap.size:=⟨_,rfl⟩;have Gp:=hid Nr.out.lit;rw [<- hN,<- hf] at Gp;rw [<- hN,<- hf];clear hN hf;refine hK.out _ _ (fun _ _=>Gp.out.aT) (fun hH2=>?_);clear hK KQ hH;have hH:=hH2 (by decide) (by kernel_rfl);clear hH2;try simp only [Act.put,ji3,ji4,ji5]
    clear Nr;refine F8 (i:=8) (j:=11) rfl rfl (by kernel_rfl) (fun KQ hK=>?_) (fun KQ hK=>?_)
    ·go_simp;go_at_call 57
     (with_reducible refine (iT ⟨#[116,104,101,97,100]⟩ none (some ⟨f,0,none⟩) 0 1 0 1 y2).mono ?_)
     rintro e y3 ⟨rfl,hb⟩;have ug:=hid (Gp.out.el hb ⟨#[116,104,101,97,100]⟩);clear hb;refine hK.out _ _ (fun _ _=>ug.out.aT) (fun hH2=>?_);clear hK KQ hH;have hH:=hH2 (by decide) (by kernel_rfl);clear hH2;try simp only [Act.put,ji3,ji4,ji5]
     clear Gp;refine F8 (i:=9) (j:=11) rfl rfl (by kernel_rfl) (fun KQ hK=>?_) (fun KQ hK=>?_)
     ·go_simp;obtain ⟨y4,hN⟩:∃ y4,y4=y3.alloc (.cells #[.string ⟨#[116,104,101,97,100]⟩,.string ⟨#[]⟩,.slice none 0 0,.slice (some ⟨f,0,none⟩) 1 1] 43):=⟨_,rfl⟩;obtain ⟨g,hf⟩:∃ g,g=y3.heap.size:=⟨_,rfl⟩;have wJ:=hid ug.out.Nq;rw [<- hN,<- hf] at wJ;rw [<- hN,<- hf];clear hN hf;refine hK.out _ _ (fun _ _=>wJ.out.aT) (fun hH2=>?_);clear hK KQ hH;have hH:=hH2 (by decide) (by kernel_rfl);clear hH2;try simp only [Act.put,ji3,ji4,ji5]
      clear ug;refine F8 (i:=10) (j:=11) rfl rfl (by kernel_rfl) (fun KQ hK=>?_) (fun KQ hK=>?_)
      ·go_simp;go_at_call 57
       (with_reducible refine (iT ⟨#[116,97,98,108,101]⟩ none (some ⟨g,0,none⟩) 0 1 0 1 y4).mono ?_)
       rintro e y5 ⟨rfl,hb⟩;have qB:=hid (wJ.out.far hb);clear hb;refine hK.out _ _ (fun _ _=>qB.out.aT) (fun hH2=>?_);clear hK KQ hH;have hH:=hH2 (by decide) (by kernel_rfl);clear hH2;try simp only [Act.put,ji3,ji4,ji5]
       clear wJ;refine q01 (i:=11) rfl (by kernel_rfl) (fun KQ hK=>?_);go_simp;obtain ⟨y6,hN⟩:∃ y6,y6=y5.alloc (.cells #[.string ⟨#[]⟩,.string ⟨#[]⟩,.slice none 0 0,.slice none 0 0] 43):=⟨_,rfl⟩;obtain ⟨q,hf⟩:∃ q,q=y5.heap.size:=⟨_,rfl⟩;have uh:=hid qB.out.zero;rw [<- hN,<- hf] at uh;rw [<- hN,<- hf];clear hN hf;refine hK.out _ _ (fun _ _=>uh.out.aT) (fun hH2=>?_);clear hK KQ hH;have hH:=hH2 (by decide) (by kernel_rfl);clear hH2;try simp only [Act.put,ji3,ji4,ji5]
       clear qB;refine q01 (i:=12) rfl (by kernel_rfl) (fun KQ hK=>?_);obtain ⟨x0,x1,x2,x3,xf⟩:=mZ (uh.out.cb q rfl).2;go_simp;have HJ:=hid (uh.out.put (.string ⟨#[116,97,98,108,101]⟩) (.string ⟨#[]⟩) (.slice none 0 0) (.slice (some ⟨g,0,none⟩) 1 1));clear x0 x1 x2 x3 xf;refine hK.out _ _ (fun h=>absurd rfl h) (fun _=>?_);clear hK KQ hH;try simp only [Act.put,ji3,ji4,ji5]
       refine Ba (by kernel_rfl) ?_ _;go_wp2
       go_meet
       exact ⟨q,g,f,rfl,HJ.out⟩
      ·go_simp;obtain ⟨y5,hN⟩:∃ y5,y5=y4.alloc (.cells #[.string ⟨#[]⟩,.string ⟨#[]⟩,.slice none 0 0,.slice none 0 0] 43):=⟨_,rfl⟩;obtain ⟨q,hf⟩:∃ q,q=y4.heap.size:=⟨_,rfl⟩;have qB:=hid wJ.out.zero;rw [<- hN,<- hf] at qB;rw [<- hN,<- hf];clear hN hf;refine hK.out _ _ (fun _ _=>qB.out.aT) (fun hH2=>?_);clear hK KQ hH;have hH:=hH2 (by decide) (by kernel_rfl);clear hH2;try simp only [Act.put,ji3,ji4,ji5]
       clear wJ;refine q01 (i:=10) rfl (by kernel_rfl) (fun KQ hK=>?_);go_simp;go_at_call 57
       (with_reducible refine (iT ⟨#[116,97,98,108,101]⟩ none (some ⟨g,0,none⟩) 0 1 0 1 y5).mono ?_)
       rintro e y6 ⟨rfl,hb⟩;have uh:=hid (qB.out.far hb);clear hb;refine hK.out _ _ (fun _ _=>uh.out.aT) (fun hH2=>?_);clear hK KQ hH;have hH:=hH2 (by decide) (by kernel_rfl);clear hH2;try simp only [Act.put,ji3,ji4,ji5]
       clear qB;refine q01 (i:=12) rfl (by kernel_rfl) (fun KQ hK=>?_);obtain ⟨x0,x1,x2,x3,xf⟩:=mZ (uh.out.cb q rfl).2;go_simp;have HJ:=hid (uh.out.put (.string ⟨#[116,97,98,108,101]⟩) (.string ⟨#[]⟩) (.slice none 0 0) (.slice (some ⟨g,0,none⟩) 1 1));clear x0 x1 x2 x3 xf;refine hK.out _ _ (fun h=>absurd rfl h) (fun _=>?_);clear hK KQ hH;try simp only [Act.put,ji3,ji4,ji5]
       refine Ba (by kernel_rfl) ?_ _;go_wp2
       go_meet
       exact ⟨q,g,f,rfl,HJ.out⟩
     ·go_simp;obtain ⟨y4,hN⟩:∃ y4,y4=y3.alloc (.cells #[.string ⟨#[]⟩,.string ⟨#[]⟩,.slice none 0 0,.slice none 0 0] 43):=⟨_,rfl⟩;obtain ⟨q,hf⟩:∃ q,q=y3.heap.size:=⟨_,rfl⟩;have wJ:=hid ug.out.zero;rw [<- hN,<- hf] at wJ;rw [<- hN,<- hf];clear hN hf;refine hK.out _ _ (fun _ _=>wJ.out.aT) (fun hH2=>?_);clear hK KQ hH;have hH:=hH2 (by decide) (by kernel_rfl);clear hH2;try simp only [Act.put,ji3,ji4,ji5]
      clear ug;refine q01 (i:=9) rfl (by kernel_rfl) (fun KQ hK=>?_);go_simp;obtain ⟨y5,hN⟩:∃ y5,y5=y4.alloc (.cells #[.string ⟨#[116,104,101,97,100]⟩,.string ⟨#[]⟩,.slice none 0 0,.slice (some ⟨f,0,none⟩) 1 1] 43):=⟨_,rfl⟩;obtain ⟨g,hf⟩:∃ g,g=y4.heap.size:=⟨_,rfl⟩;have qB:=hid wJ.out.Nq;rw [<- hN,<- hf] at qB;rw [<- hN,<- hf];clear hN hf;refine hK.out _ _ (fun _ _=>qB.out.aT) (fun hH2=>?_);clear hK KQ hH;have hH:=hH2 (by decide) (by kernel_rfl);clear hH2;try simp only [Act.put,ji3,ji4,ji5]
      clear wJ;refine q01 (i:=10) rfl (by kernel_rfl) (fun KQ hK=>?_);go_simp;go_at_call 57
      (with_reducible refine (iT ⟨#[116,97,98,108,101]⟩ none (some ⟨g,0,none⟩) 0 1 0 1 y5).mono ?_)
      rintro e y6 ⟨rfl,hb⟩;have uh:=hid (qB.out.far hb);clear hb;refine hK.out _ _ (fun _ _=>uh.out.aT) (fun hH2=>?_);clear hK KQ hH;have hH:=hH2 (by decide) (by kernel_rfl);clear hH2;try simp only [Act.put,ji3,ji4,ji5]
      clear qB;refine q01 (i:=12) rfl (by kernel_rfl) (fun KQ hK=>?_);obtain ⟨x0,x1,x2,x3,xf⟩:=mZ (uh.out.cb q rfl).2;go_simp;have HJ:=hid (uh.out.put (.string ⟨#[116,97,98,108,101]⟩) (.string ⟨#[]⟩) (.slice none 0 0) (.slice (some ⟨g,0,none⟩) 1 1));clear x0 x1 x2 x3 xf;refine hK.out _ _ (fun h=>absurd rfl h) (fun _=>?_);clear hK KQ hH;try simp only [Act.put,ji3,ji4,ji5]
      refine Ba (by kernel_rfl) ?_ _;go_wp2
      go_meet
      exact ⟨q,g,f,rfl,HJ.out⟩
    ·go_simp;obtain ⟨y3,hN⟩:∃ y3,y3=y2.alloc (.cells #[.string ⟨#[]⟩,.string ⟨#[]⟩,.slice none 0 0,.slice none 0 0] 43):=⟨_,rfl⟩;obtain ⟨q,hf⟩:∃ q,q=y2.heap.size:=⟨_,rfl⟩;have ug:=hid Gp.out.zero;rw [<- hN,<- hf] at ug;rw [<- hN,<- hf];clear hN hf;refine hK.out _ _ (fun _ _=>ug.out.aT) (fun hH2=>?_);clear hK KQ hH;have hH:=hH2 (by decide) (by kernel_rfl);clear hH2;try simp only [Act.put,ji3,ji4,ji5]
     clear Gp;refine q01 (i:=8) rfl (by kernel_rfl) (fun KQ hK=>?_);go_simp;go_at_call 57
     (with_reducible refine (iT ⟨#[116,104,101,97,100]⟩ none (some ⟨f,0,none⟩) 0 1 0 1 y3).mono ?_)
     rintro e y4 ⟨rfl,hb⟩;have wJ:=hid (ug.out.el hb ⟨#[116,104,101,97,100]⟩);clear hb;refine hK.out _ _ (fun _ _=>wJ.out.aT) (fun hH2=>?_);clear hK KQ hH;have hH:=hH2 (by decide) (by kernel_rfl);clear hH2;try simp only [Act.put,ji3,ji4,ji5]
     clear ug;refine q01 (i:=9) rfl (by kernel_rfl) (fun KQ hK=>?_);go_simp;obtain ⟨y5,hN⟩:∃ y5,y5=y4.alloc (.cells #[.string ⟨#[116,104,101,97,100]⟩,.string ⟨#[]⟩,.slice none 0 0,.slice (some ⟨f,0,none⟩) 1 1] 43):=⟨_,rfl⟩;obtain ⟨g,hf⟩:∃ g,g=y4.heap.size:=⟨_,rfl⟩;have qB:=hid wJ.out.Nq;rw [<- hN,<- hf] at qB;rw [<- hN,<- hf];clear hN hf;refine hK.out _ _ (fun _ _=>qB.out.aT) (fun hH2=>?_);clear hK KQ hH;have hH:=hH2 (by decide) (by kernel_rfl);clear hH2;try simp only [Act.put,ji3,ji4,ji5]
     clear wJ;refine q01 (i:=10) rfl (by kernel_rfl) (fun KQ hK=>?_);go_simp;go_at_call 57
     (with_reducible refine (iT ⟨#[116,97,98,108,101]⟩ none (some ⟨g,0,none⟩) 0 1 0 1 y5).mono ?_)
     rintro e y6 ⟨rfl,hb⟩;have uh:=hid (qB.out.far hb);clear hb;refine hK.out _ _ (fun _ _=>uh.out.aT) (fun hH2=>?_);clear hK KQ hH;have hH:=hH2 (by decide) (by kernel_rfl);clear hH2;try simp only [Act.put,ji3,ji4,ji5]
     clear qB;refine q01 (i:=12) rfl (by kernel_rfl) (fun KQ hK=>?_);obtain ⟨x0,x1,x2,x3,xf⟩:=mZ (uh.out.cb q rfl).2;go_simp;have HJ:=hid (uh.out.put (.string ⟨#[116,97,98,108,101]⟩) (.string ⟨#[]⟩) (.slice none 0 0) (.slice (some ⟨g,0,none⟩) 1 1));clear x0 x1 x2 x3 xf;refine hK.out _ _ (fun h=>absurd rfl h) (fun _=>?_);clear hK KQ hH;try simp only [Act.put,ji3,ji4,ji5]
     refine Ba (by kernel_rfl) ?_ _;go_wp2
     go_meet
     exact ⟨q,g,f,rfl,HJ.out⟩
   ·go_simp;obtain ⟨y2,hN⟩:∃ y2,y2=y1.alloc (.cells #[.string ⟨#[]⟩,.string ⟨#[]⟩,.slice none 0 0,.slice none 0 0] 43):=⟨_,rfl⟩;obtain ⟨q,hf⟩:∃ q,q=y1.heap.size:=⟨_,rfl⟩;have Gp:=hid Nr.out.zero;rw [<- hN,<- hf] at Gp;rw [<- hN,<- hf];clear hN hf;refine hK.out _ _ (fun _ _=>Gp.out.aT) (fun hH2=>?_);clear hK KQ hH;have hH:=hH2 (by decide) (by kernel_rfl);clear hH2;try simp only [Act.put,ji3,ji4,ji5]
    clear Nr;refine q01 (i:=7) rfl (by kernel_rfl) (fun KQ hK=>?_);go_simp;obtain ⟨y3,hN⟩:∃ y3,y3=y2.alloc (.cells #[.string qM,.string ⟨#[]⟩,.slice aA nA cA,.slice aK nK cK] 43):=⟨_,rfl⟩;obtain ⟨f,hf⟩:∃ f,f=y2.heap.size:=⟨_,rfl⟩;have ug:=hid Gp.out.lit;rw [<- hN,<- hf] at ug;rw [<- hN,<- hf];clear hN hf;refine hK.out _ _ (fun _ _=>ug.out.aT) (fun hH2=>?_);clear hK KQ hH;have hH:=hH2 (by decide) (by kernel_rfl);clear hH2;try simp only [Act.put,ji3,ji4,ji5]
    clear Gp;refine q01 (i:=8) rfl (by kernel_rfl) (fun KQ hK=>?_);go_simp;go_at_call 57
    (with_reducible refine (iT ⟨#[116,104,101,97,100]⟩ none (some ⟨f,0,none⟩) 0 1 0 1 y3).mono ?_)
    rintro e y4 ⟨rfl,hb⟩;have wJ:=hid (ug.out.el hb ⟨#[116,104,101,97,100]⟩);clear hb;refine hK.out _ _ (fun _ _=>wJ.out.aT) (fun hH2=>?_);clear hK KQ hH;have hH:=hH2 (by decide) (by kernel_rfl);clear hH2;try simp only [Act.put,ji3,ji4,ji5]
    clear ug;refine q01 (i:=9) rfl (by kernel_rfl) (fun KQ hK=>?_);go_simp;obtain ⟨y5,hN⟩:∃ y5,y5=y4.alloc (.cells #[.string ⟨#[116,104,101,97,100]⟩,.string ⟨#[]⟩,.slice none 0 0,.slice (some ⟨f,0,none⟩) 1 1] 43):=⟨_,rfl⟩;obtain ⟨g,hf⟩:∃ g,g=y4.heap.size:=⟨_,rfl⟩;have qB:=hid wJ.out.Nq;rw [<- hN,<- hf] at qB;rw [<- hN,<- hf];clear hN hf;refine hK.out _ _ (fun _ _=>qB.out.aT) (fun hH2=>?_);clear hK KQ hH;have hH:=hH2 (by decide) (by kernel_rfl);clear hH2;try simp only [Act.put,ji3,ji4,ji5]
    clear wJ;refine q01 (i:=10) rfl (by kernel_rfl) (fun KQ hK=>?_);go_simp;go_at_call 57
    (with_reducible refine (iT ⟨#[116,97,98,108,101]⟩ none (some ⟨g,0,none⟩) 0 1 0 1 y5).mono ?_)
    rintro e y6 ⟨rfl,hb⟩;have uh:=hid (qB.out.far hb);clear hb;refine hK.out _ _ (fun _ _=>uh.out.aT) (fun hH2=>?_);clear hK KQ hH;have hH:=hH2 (by decide) (by kernel_rfl);clear hH2;try simp only [Act.put,ji3,ji4,ji5]
    clear qB;refine q01 (i:=12) rfl (by kernel_rfl) (fun KQ hK=>?_);obtain ⟨x0,x1,x2,x3,xf⟩:=mZ (uh.out.cb q rfl).2;go_simp;have HJ:=hid (uh.out.put (.string ⟨#[116,97,98,108,101]⟩) (.string ⟨#[]⟩) (.slice none 0 0) (.slice (some ⟨g,0,none⟩) 1 1));clear x0 x1 x2 x3 xf;refine hK.out _ _ (fun h=>absurd rfl h) (fun _=>?_);clear hK KQ hH;try simp only [Act.put,ji3,ji4,ji5]
    refine Ba (by kernel_rfl) ?_ _;go_wp2
    go_meet
    exact ⟨q,g,f,rfl,HJ.out⟩
  ·go_simp;obtain ⟨y1,hN⟩:∃ y1,y1=y0.alloc (.cells #[.string ⟨#[]⟩,.string ⟨#[]⟩,.slice none 0 0,.slice none 0 0] 43):=⟨_,rfl⟩;obtain ⟨q,hf⟩:∃ q,q=y0.heap.size:=⟨_,rfl⟩;have Nr:=hid Zu.out.zero;rw [<- hN,<- hf] at Nr;rw [<- hN,<- hf];clear hN hf;refine hK.out _ _ (fun _ _=>Nr.out.aT) (fun hH2=>?_);clear hK KQ hH;have hH:=hH2 (by decide) (by kernel_rfl);clear hH2;try simp only [Act.put,ji3,ji4,ji5]
   clear Zu;refine q01 (i:=6) rfl (by kernel_rfl) (fun KQ hK=>?_);go_simp;go_at_call 201
   (with_reducible refine (RC.out y1 Nr.out.aT).mono ?_)
   rintro e y2 ⟨va,vk,he,hR,hb⟩;obtain ⟨aA,nA,cA,rfl⟩:=Rd.au hR.at_
   obtain ⟨aK,nK,cK,rfl⟩:=Rd.au hR.ks;have he:e=.returned (.agg #[.string qM,.string ⟨#[]⟩,.slice aA nA cA,.slice aK nK cK]):=he;subst he;have Gp:=hid (Nr.out.nd hb (Nd.eD qM ⟨#[]⟩ hR));clear hb hR;refine hK.out _ _ (fun _ _=>Gp.out.aT) (fun hH2=>?_);clear hK KQ hH;have hH:=hH2 (by decide) (by kernel_rfl);clear hH2;try simp only [Act.put,ji3,ji4,ji5]
   clear Nr;refine q01 (i:=7) rfl (by kernel_rfl) (fun KQ hK=>?_);go_simp;obtain ⟨y3,hN⟩:∃ y3,y3=y2.alloc (.cells #[.string qM,.string ⟨#[]⟩,.slice aA nA cA,.slice aK nK cK] 43):=⟨_,rfl⟩;obtain ⟨f,hf⟩:∃ f,f=y2.heap.size:=⟨_,rfl⟩;have ug:=hid Gp.out.lit;rw [<- hN,<- hf] at ug;rw [<- hN,<- hf];clear hN hf;refine hK.out _ _ (fun _ _=>ug.out.aT) (fun hH2=>?_);clear hK KQ hH;have hH:=hH2 (by decide) (by kernel_rfl);clear hH2;try simp only [Act.put,ji3,ji4,ji5]
   clear Gp;refine q01 (i:=8) rfl (by kernel_rfl) (fun KQ hK=>?_);go_simp;go_at_call 57
   (with_reducible refine (iT ⟨#[116,104,101,97,100]⟩ none (some ⟨f,0,none⟩) 0 1 0 1 y3).mono ?_)
   rintro e y4 ⟨rfl,hb⟩;have wJ:=hid (ug.out.el hb ⟨#[116,104,101,97,100]⟩);clear hb;refine hK.out _ _ (fun _ _=>wJ.out.aT) (fun hH2=>?_);clear hK KQ hH;have hH:=hH2 (by decide) (by kernel_rfl);clear hH2;try simp only [Act.put,ji3,ji4,ji5]
   clear ug;refine q01 (i:=9) rfl (by kernel_rfl) (fun KQ hK=>?_);go_simp;obtain ⟨y5,hN⟩:∃ y5,y5=y4.alloc (.cells #[.string ⟨#[116,104,101,97,100]⟩,.string ⟨#[]⟩,.slice none 0 0,.slice (some ⟨f,0,none⟩) 1 1] 43):=⟨_,rfl⟩;obtain ⟨g,hf⟩:∃ g,g=y4.heap.size:=⟨_,rfl⟩;have qB:=hid wJ.out.Nq;rw [<- hN,<- hf] at qB;rw [<- hN,<- hf];clear hN hf;refine hK.out _ _ (fun _ _=>qB.out.aT) (fun hH2=>?_);clear hK KQ hH;have hH:=hH2 (by decide) (by kernel_rfl);clear hH2;try simp only [Act.put,ji3,ji4,ji5]
   clear wJ;refine q01 (i:=10) rfl (by kernel_rfl) (fun KQ hK=>?_);go_simp;go_at_call 57
   (with_reducible refine (iT ⟨#[116,97,98,108,101]⟩ none (some ⟨g,0,none⟩) 0 1 0 1 y5).mono ?_)
   rintro e y6 ⟨rfl,hb⟩;have uh:=hid (qB.out.far hb);clear hb;refine hK.out _ _ (fun _ _=>uh.out.aT) (fun hH2=>?_);clear hK KQ hH;have hH:=hH2 (by decide) (by kernel_rfl);clear hH2;try simp only [Act.put,ji3,ji4,ji5]
   clear qB;refine q01 (i:=12) rfl (by kernel_rfl) (fun KQ hK=>?_);obtain ⟨x0,x1,x2,x3,xf⟩:=mZ (uh.out.cb q rfl).2;go_simp;have HJ:=hid (uh.out.put (.string ⟨#[116,97,98,108,101]⟩) (.string ⟨#[]⟩) (.slice none 0 0) (.slice (some ⟨g,0,none⟩) 1 1));clear x0 x1 x2 x3 xf;refine hK.out _ _ (fun h=>absurd rfl h) (fun _=>?_);clear hK KQ hH;try simp only [Act.put,ji3,ji4,ji5]
   refine Ba (by kernel_rfl) ?_ _;go_wp2
   go_meet
   exact ⟨q,g,f,rfl,HJ.out⟩
 case rest=>
  obtain ⟨q,g,f,rfl,hJ⟩:=hcut;obtain ⟨w1,hw1⟩:∃ w1:jl9,w1=wc:=⟨_,rfl⟩;subst hw1;have HJ:=hid hJ;obtain ⟨-,e10,-⟩:=CX.out w1 hJ.aT;obtain ⟨iN,Fg,nR,nT,nU⟩:=info_parts l9;obtain ⟨nr,hnr⟩:∃ nr,nr=nk-1:=⟨_,rfl⟩;have Gq:Hid (nr=rs.length):=by have:=Ip.out;show _=_;omega
  have jh9:nr<=900000:=by omega
  have R0:Hid (Bw w1 i rs (.slice none 0 0) (.int .i64 0) w1):=⟨0,[],Nat.zero_le _,rfl,ay.nil _ _ _ _⟩;have hZ0:W0.heap.size=S+2:=Z0.out;clear hJ;by_cases hck:ck=1
  case' pos=>
   have hnz:nr=0:=by omega
   subst hck;go_upto_region 4 with (fail)
   subst hnz;clear hnr e10
   go_loopw [4,22] (fun v vi wr=>Bw w1 i rs v vi wr) (fun _ vi _=>0-(intOf vi).toNat)
   case atStart=>exact R0.out
   case' round=>
    clear R0;obtain ⟨j,rows,hj,rfl,hrow⟩:=hrel;obtain ⟨ds,hds⟩:∃ ds,ds=((rs.take j).map (jV yK i)).map Nd.d:=⟨_,rfl⟩;rw [<- hds] at hrow;obtain ⟨m,hm⟩:∃ m,m=ds.length:=⟨_,rfl⟩;have hmj:m<=1000000:=by have h2:(rs.take j).length<=rs.length:=List.length_take_le' _ _;rw [hm,hds,jix,jix];have:=Gq.out;omega
    obtain ⟨av,cv,rfl,-,-⟩:=hrow.cap hm.symm;have HM:=hid hm.symm;have Fe:=hid hds;have bZ:=hid hrow;clear hrow hm hds;by_cases hlt:j<0
    ·exact absurd hlt (by omega)
    have hkl:j=0:=by have:=Gq.out;omega
  case' neg=>
   obtain ⟨ck2,Zv⟩:∃ ck2,ck2=ck-1:=⟨_,rfl⟩;go_upto_region 4 with (fail)
   rw [<- hnr,<- Zv];have hcc:nr<=ck2:=by omega
   clear hnr e10 Zv hck
   go_loopw [4,22] (fun v vi wr=>Bw w1 i rs v vi wr) (fun _ vi _=>nr-(intOf vi).toNat)
   case atStart=>exact R0.out
   case' round=>
    clear R0;obtain ⟨j,rows,hj,rfl,hrow⟩:=hrel;obtain ⟨ds,hds⟩:∃ ds,ds=((rs.take j).map (jV yK i)).map Nd.d:=⟨_,rfl⟩;rw [<- hds] at hrow;obtain ⟨m,hm⟩:∃ m,m=ds.length:=⟨_,rfl⟩;have hmj:m<=1000000:=by have h2:(rs.take j).length<=rs.length:=List.length_take_le' _ _;rw [hm,hds,jix,jix];have:=Gq.out;omega
    obtain ⟨av,cv,rfl,-,-⟩:=hrow.cap hm.symm;have HM:=hid hm.symm;have Fe:=hid hds;have bZ:=hid hrow;clear hrow hm hds;by_cases hlt:j<nr
    ·obtain ⟨y,hy⟩:∃ y,rs[j]?=some y:=⟨_,List.getElem?_eq_getElem (by have:=Gq.out;omega)⟩;have hsn:=pJ (jV yK i) rs j y hy;have hw:=Xy.out y (List.mem_of_getElem? hy);obtain ⟨yk,Iq,yi,yt,yd,Ir,FV,JX,Iu⟩:=y;have hw:Iu.length=i.size/\Iu.length<=1000000/\∀ c∈Iu,Yh c.mh:=hw;obtain ⟨g2,off2,vc,vp,vl,vk,hge,hok2,Kk,hc2,hR2⟩:=eP (k:=j+1) HS2.out (show (ah.mk xk VZ xi xt xd V3 V4 xli Ct::rs)[j+1]?=some (.mk yk Iq yi yt yd Ir FV JX Iu) by simpa using hy);obtain ⟨rfl,rfl⟩:ga=g2/\off=off2:=by simpa using hge
     have hbr:jlj W0.heap.size W0 wr:=HJ.out.aT.trans (bZ.out.aT.mono HJ.out.aT.size);have hc2:dK W0 ga (off+11+j*11) yk Iq yi yt yd Ir FV.id vc vp vl vk:=by rw [show off+11+j*11=off+(j+1)*11 by omega];exact hc2
     obtain ⟨c0,c1,c2,c3,c4,c5,c6,c7,c8,c9,c10⟩:=hc2.at2 (w':=wr) (hbr.block ga hbl);obtain ⟨L9,Ma,Mc,rfl⟩:=Rd.au hR2.at_.cls
     obtain ⟨Md,Me,Mf,rfl⟩:=Rd.au hR2.at_.aR
     obtain ⟨Co,Cq,Cr,rfl⟩:=Rd.au hR2.line;obtain ⟨Mg,Mh,Mi,rfl⟩:=Rd.au hR2.kids;have RC2:Hid (∀ w':jl9,jlj W0.heap.size W0 w'->Calls Tryz.prog 201 #[.agg #[.int .i64 yk,.int .i64 Iq,.string yi,.string yt,.string yd,.string Ir,.string FV.id,.slice L9 Ma Mc,.slice Md Me Mf,.slice Co Cq Cr,.slice Mg Mh Mi],.string ⟨#[116,100]⟩,.string i] w' (rZ w' (aV qM [] (bg yK i.data.toList Iu)))):=fun w' hb=>
      DY yk Iq yi yt yd Ir FV JX Iu _ _ _ _ yK i w' (j6.DJ hR2 (fun b (hb':b<S) hlt=>⟨by show b<w'.heap.size;have:=hb.size;omega,hb.block b (by omega)⟩)) hw.1 hw.2.1 hw.2.2
     have xP:=hid (show ((rs.take (j+1)).map (jV yK i)).map Nd.d=ds++[(aV qM [] (bg yK i.data.toList Iu)).d] by rw [hsn,List.map_append,Fe.out];rfl);have Zw:=hid hbr;clear hy hsn hw hge hok2 Kk hc2 hR2 hbr;go_upto_region 6 with (fail)
     obtain ⟨p,hp⟩:∃ p,p=wr.heap.size:=⟨_,rfl⟩;obtain ⟨wA,iJ⟩:∃ wA,wA=wr.alloc (.cells #[.int .i64 yk,.int .i64 Iq,.string yi,.string yt,.string yd,.string Ir,.string FV.id,.slice L9 Ma Mc,.slice Md Me Mf,.slice Co Cq Cr,.slice Mg Mh Mi] 30):=⟨_,rfl⟩;have PA:CB 30 p [.int .i64 yk,.int .i64 Iq,.string yi,.string yt,.string yd,.string Ir,.string FV.id,.slice L9 Ma Mc,.slice Md Me Mf,.slice Co Cq Cr,.slice Mg Mh Mi] wA:=by rw [iJ,hp];exact CB.new _ _ wr
     have bA:jlj wr.heap.size wr wA:=by rw [iJ];exact (ji7 _ _).alloc (ji8 _) _
     rw [<- iJ,<- hp];have BA:=hid bA;have Xh:jlj W0.heap.size W0 wA:=Zw.out.trans (bA.mono Zw.out.size);obtain ⟨e2,-,-⟩:=CX.out wA Xh;have d0:=PA.cell 0 _ rfl;have d1:=PA.cell 1 _ rfl;have d2:=PA.cell 2 _ rfl;have d3:=PA.cell 3 _ rfl;have d4:=PA.cell 4 _ rfl;have d5:=PA.cell 5 _ rfl;have d6:=PA.cell 6 _ rfl;have d7:=PA.cell 7 _ rfl;have d8:=PA.cell 8 _ rfl;have d9:=PA.cell 9 _ rfl;have d10:=PA.cell 10 _ rfl;have Yl:=hid (RC2.out wA Xh);have hpw:wr.heap.size<=wA.heap.size:=bA.size;clear iJ hp c0 c1 c2 c3 c4 c5 c6 c7 c8 c9 c10 PA bA Xh RC2;go_wp2_with fail
     (with_reducible refine Yl.out.mono ?_)
     rintro e w2 ⟨va,vk,he,hR2,hb2⟩;obtain ⟨aA,nA,cA,rfl⟩:=Rd.au hR2.at_
     obtain ⟨aK,nK,cK,rfl⟩:=Rd.au hR2.ks;have he:e=.returned (.agg #[.string qM,.string ⟨#[]⟩,.slice aA nA cA,.slice aK nK cK]):=he;subst he;have U2:=hid ((bZ.out.below BA.out).below hb2);have XD:=hid ((Nd.eD qM ⟨#[]⟩ hR2).weaken (ok':=fun b=>False\/wr.heap.size<=b) (fun b hb=>.inr (Nat.le_trans hpw hb)));clear Yl hR2 hb2 d0 d1 d2 d3 d4 d5 d6 d7 d8 d9 d10 e2;go_wp2_with (at_builtin;refine eU rfl _ _ 34 rfl iN _ 80 Tryz.underlying34 Fg nR nT nU rfl (by decide) U2.out (fun _=>False.elim) (aV qM [] (bg yK i.data.toList Iu)).d [.string qM,.string ⟨#[]⟩,.slice aA nA cA,.slice aK nK cK] XD.out rfl jJ HM.out (by omega) (by decide) rfl rfl ?_)
     intro a' c' w5 hrow hg5;have HF:Hid (Bw w1 i rs (.slice a' (m+1) c') (.int .i64 ((j+1:Nat):Int)) w5):=⟨j+1,_,by have:=Gq.out;omega,rfl,by rw [xP.out];exact hrow⟩;clear hrow hg5 XD U2 bZ;go_wp2;go_roundw;case rel=>exact HF.out
     case measure=>simp [intOf];omega
    have hkl:j=nr:=by have:=Gq.out;omega
  all_goals
   have hjr:j=rs.length:=by have:=Gq.out;omega
   have Zx:Hid (Rd (w1.heap.size<=·) wr (cZ (rs.map (jV yK i))) [.slice av m cv]):=by have h:=bZ.out.fA;rw [Fe.out,hjr,List.take_length] at h;exact h
   have Px:=hid (HJ.out.far bZ.out.aT);have Ux:Hid (W0.heap.size<=w1.heap.size):=HJ.out.aT.size;have V5:Hid (q<w1.heap.size):=HJ.out.cq.lt;have HG1:Hid (g<w1.heap.size):=HJ.out.cg.lt;by_cases hm0:m=0
   ·have HE:Hid (rs=[]):=by
     have:=HM.out;rw [Fe.out,hjr] at this;simp at this;exact List.length_eq_zero_iff.1 (by omega)
    subst hm0;have BL:=Px.out.aT;have HQ:=hid Px.out.cq;have YG:Hid (jT (W0.heap.size<=·) wr [] [aV eZ [] [aV qM [] (bg Gh i.data.toList Ct)]] (.slice none 0 0) (.slice (some ⟨g,0,none⟩) 1 1)):=⟨Rd.aF _ _ _,Rd.lu (l:=[(aV eZ [] [aV qM [] (bg Gh i.data.toList Ct)]).d]) (rows:=[[.string ⟨#[116,104,101,97,100]⟩,.string ⟨#[]⟩,.slice none 0 0,.slice (some ⟨f,0,none⟩) 1 1]]) (Np Px.out.cg rfl) (aP.one (Px.out.rd.weaken (fun b hb=>hb.1))) (by simp) (fun b hb=>by
     have e1:g=b:=by simpa [Value.ownBlock] using hb
     rw [<- e1];exact Px.out.hg.1)⟩
    have HTE:Hid (dI i (ah.mk xk VZ xi xt xd V3 V4 xli Ct::rs)=aV wK [] [aV eZ [] [aV qM [] (bg Gh i.data.toList Ct)]]):=by show _=_;rw [HE.out];rfl
    obtain ⟨x0,x1,x2,x3,xf⟩:=mZ (K1.out.below BL);obtain ⟨y0,y1,y2,y3,-⟩:=cb4 HQ.out;go_upto_region 10 with (fail)
    obtain ⟨w9,bT⟩:∃ w9,w9=four wr (S+1) (.string ⟨#[116,97,98,108,101]⟩) (.string ⟨#[]⟩) (.slice none 0 0) (.slice (some ⟨g,0,none⟩) 1 1):=⟨_,rfl⟩;have hf:=fB ⟨#[116,97,98,108,101]⟩ ⟨#[]⟩ [] ([aV eZ [] [aV qM [] (bg Gh i.data.toList Ct)]]) Cy.out Z0.out B0.out K1.out BL YG.out;rw [<- bT] at hf;have iU:=hid hf.1;have Bc:=hid hf.2;clear hf;have hw8:=bT;simp only [four] at hw8;clear bT;go_wp2;rw [<- hw8];have r0:=iU.out.cell 0 _ rfl;have r1:=iU.out.cell 1 _ rfl;have r2:=iU.out.cell 2 _ rfl;have r3:=iU.out.cell 3 _ rfl;exact bodyPost_ret (v:=.agg #[.string ⟨#[116,97,98,108,101]⟩,.string ⟨#[]⟩,.slice none 0 0,.slice (some ⟨g,0,none⟩) 1 1]) (by simp [results,Tryz.results160,go_sem,r0,r1,r2,r3]) rfl (by rw [HTE.out];exact Bc.out)
   ·have hm1:0<m:=by omega
    have HE:Hid (rs.isEmpty=false):=by
     show _=_;cases hrs:rs with
     | nil=>
      have:=HM.out;rw [Fe.out,hrs] at this;simp at this;omega
     | cons _ _=>rfl
    have S0:wr.drew.cell? ⟨q,3,none⟩=some (.slice (some ⟨g,0,none⟩) 1 1):=Px.out.cq.cell 3 _ rfl;have HTE:Hid (dI i (ah.mk xk VZ xi xt xd V3 V4 xli Ct::rs)=aV wK [] [aV eZ [] [aV qM [] (bg Gh i.data.toList Ct)],aV oL [] (rs.map (jV yK i))]):=by show aV wK [] (aV eZ [] [aV qM [] (bg Gh i.data.toList Ct)]::if rs.isEmpty=true then [] else [aV oL [] (rs.map (jV yK i))])=_;rw [HE.out];rfl
    clear hkl hjr hm0;go_upto_region 9 with (fail)
    refine mE 7 (fun w'=>w'.cell? ⟨q,3,none⟩=some (.slice (some ⟨g,0,none⟩) 1 1)) (by kernel_rfl) S0 ?_;intro hH;refine Pn 0 (v:=?_) rfl (by kernel_rfl) hH (by rfl) ?_ ?_;rotate_left
    ·(intro wv hSw;(try dsimp only at hSw);go_simp;try with_reducible rfl)
    try simp only [Act.put,ji3,ji4,ji5]
    refine Pn 1 (v:=?_) rfl (by kernel_rfl) hH (by rfl) ?_ ?_;rotate_left
    ·(intro wv hSw;(try dsimp only at hSw);go_simp;try with_reducible rfl)
    try simp only [Act.put,ji3,ji4,ji5]
    refine Pn 2 (v:=?_) rfl (by kernel_rfl) hH (by rfl) ?_ ?_;rotate_left
    ·(intro wv hSw;(try dsimp only at hSw);go_simp;try with_reducible rfl)
    try simp only [Act.put,ji3,ji4,ji5]
    refine FZ (i:=3) rfl (by kernel_rfl) (fun KQ hK=>?_);go_simp;go_at_call 57
    (with_reducible refine (iT ⟨#[116,98,111,100,121]⟩ none av 0 m 0 cv _).mono ?_)
    rintro e w3 ⟨rfl,b3⟩;have B3:jlj wr.heap.size wr w3:=((ji7 _ _).drew).trans b3;have I9:=hid (Px.out.far B3);have S3:w3.cell? ⟨q,3,none⟩=some (.slice (some ⟨g,0,none⟩) 1 1):=I9.out.cq.cell 3 _ rfl;have XD:=hid (show Rd (fun b=>w1.heap.size<=b) w3 (aV ⟨#[116,98,111,100,121]⟩ [] (rs.map (jV yK i))).d [.string ⟨#[116,98,111,100,121]⟩,.string ⟨#[]⟩,.slice none 0 0,.slice av m cv] from Nd.eD ⟨#[116,98,111,100,121]⟩ ⟨#[]⟩ ⟨Rd.aF _ _ _,Zx.out.bq B3⟩);have HB3:=hid B3;clear b3 B3 S0;refine hK.out _ _ (fun _=>S3) (fun hH2=>?_);clear hK KQ hH;have hH:=hH2 (by decide);clear hH2;try simp only [Act.put,ji3,ji4,ji5]
    refine FZ (i:=4) rfl (by kernel_rfl) (fun KQ hK=>?_);go_simp;refine hK.out _ _ (fun _=>past S3 _) (fun hH2=>?_);clear hK KQ hH;have hH:=hH2 (by decide);clear hH2;try simp only [Act.put,ji3,ji4,ji5]
    refine FZ (i:=5) rfl (by kernel_rfl) (fun KQ hK=>?_);refine Kj (n:=1) rfl (.tmp 38) (.tmp 41) 34 rfl iN _ 80 Tryz.underlying34 Fg nR nT nU rfl (by decide) (ds:=[(aV eZ [] [aV qM [] (bg Gh i.data.toList Ct)]).d]) (rows:=[[.string ⟨#[116,104,101,97,100]⟩,.string ⟨#[]⟩,.slice none 0 0,.slice (some ⟨f,0,none⟩) 1 1]]) (v:=.slice (some ⟨g,0,none⟩) 1 1) (P:=fun b=>W0.heap.size<=b/\b≠q/\b≠g) (Np I9.out.cg rfl) (Nat.le_of_lt I9.out.cg.lt) (aP.one I9.out.rd) (by simp) (fun b hb e=>hb.2.2 (jd6 e)) (aV ⟨#[116,98,111,100,121]⟩ [] (rs.map (jV yK i))).d [.string ⟨#[116,98,111,100,121]⟩,.string ⟨#[]⟩,.slice none 0 0,.slice av m cv] (XD.out.weaken (fun b hb=>⟨Nat.le_trans Ux.out hb,by have:=V5.out;omega,by have:=HG1.out;omega⟩)) rfl jJ rfl (by decide) (by decide) rfl rfl ?_;intro a5 c5 w5 V6 hg5;have hgb:(Value.slice (some ⟨g,0,none⟩) 1 1).ownBlock=some g:=rfl;rw [hgb] at hg5 V6;have q5:CB 43 q [.string ⟨#[116,97,98,108,101]⟩,.string ⟨#[]⟩,.slice none 0 0,.slice (some ⟨g,0,none⟩) 1 1] w5:=(hg5.block q (by simp;have:=I9.out.cq.lt;omega) (fun e=>I9.out.hg.2 (jj0 e).symm)).trans ((jj2 w3 _ q I9.out.cq.lt).trans I9.out.cq);have S5:w5.cell? ⟨q,3,none⟩=some (.slice (some ⟨g,0,none⟩) 1 1):=q5.cell 3 _ rfl;have fz:=nD q5;have TG:jlj W0.heap.size w3 w5:=((ji7 _ w3).alloc I9.out.aT.size _).grown hg5 (by simp;have:=I9.out.aT.size;omega) (fun x hx=>by have:=jj0 hx;have:=I9.out.hg.1;omega);have yw:=hid (I9.out.aT.trans TG);have Zy:=hid V6;have HQ5:=hid q5;have hq3:q<w3.heap.size:=I9.out.cq.lt;clear V6 hg5 hgb TG XD q5;refine hK.out _ _ (fun _=>S5) (fun hH2=>?_);clear hK KQ hH;have hH:=hH2 (by decide);clear hH2;try simp only [Act.put,ji3,ji4,ji5]
    refine FZ (i:=6) rfl (by kernel_rfl) (fun KQ hK=>?_);go_simp;refine hK.out _ _ (fun _=>S5) (fun hH2=>?_);clear hK KQ hH;have hH:=hH2 (by decide);clear hH2;try simp only [Act.put,ji3,ji4,ji5]
    refine FZ (i:=7) rfl (by kernel_rfl) (fun KQ hK=>?_);go_simp;refine hK.out _ _ (fun h=>absurd rfl h) (fun _=>?_);clear hK KQ;refine mF (by kernel_rfl) ?_ _;obtain ⟨w6,jB⟩:∃ w6,w6=w5.setCell ⟨q,3,none⟩ (.slice a5 (1+1) c5):=⟨_,rfl⟩;try simp only [Nat.reduceAdd] at jB
    rw [<- jB];have HQ:Hid (CB 43 q [.string ⟨#[116,97,98,108,101]⟩,.string ⟨#[]⟩,.slice none 0 0,.slice a5 2 c5] w6):=by rw [jB];exact dF HQ5.out 3 _
    have BL:jlj W0.heap.size W0 w6:=by rw [jB];exact yw.out.setCell Px.out.hq _
    have YG:Hid (jT (W0.heap.size<=·) w6 [] [aV eZ [] [aV qM [] (bg Gh i.data.toList Ct)],aV oL [] (rs.map (jV yK i))] (.slice none 0 0) (.slice a5 2 c5)):=⟨Rd.aF _ _ _,by
     rw [jB];refine Rd.keep (fun b hb hlt=>⟨?_,Below.heap_setCell w5 ⟨q,3,none⟩ _ b ?_⟩) _ _ Zy.out
     ·rcases hb with hb | hb | hb
      ·exact hb.1
      ·have:=jj0 hb;have:=Px.out.hg.1;omega
      ·have:=I9.out.aT.size;omega
     ·show b≠q;rcases hb with hb | hb | hb
      ·exact hb.2.1
      ·have:=jj0 hb;have:=Px.out.hg.2;omega
      ·omega⟩
    clear jB Zy S3 S5 fz hH;obtain ⟨x0,x1,x2,x3,xf⟩:=mZ (K1.out.below BL);obtain ⟨y0,y1,y2,y3,-⟩:=cb4 HQ.out;go_upto_region 10 with (fail)
    obtain ⟨w9,bT⟩:∃ w9,w9=four w6 (S+1) (.string ⟨#[116,97,98,108,101]⟩) (.string ⟨#[]⟩) (.slice none 0 0) (.slice a5 2 c5):=⟨_,rfl⟩;have hf:=fB ⟨#[116,97,98,108,101]⟩ ⟨#[]⟩ [] ([aV eZ [] [aV qM [] (bg Gh i.data.toList Ct)],aV oL [] (rs.map (jV yK i))]) Cy.out Z0.out B0.out K1.out BL YG.out;rw [<- bT] at hf;have iU:=hid hf.1;have Bc:=hid hf.2;clear hf;have hw8:=bT;simp only [four] at hw8;clear bT;go_wp2;rw [<- hw8];have r0:=iU.out.cell 0 _ rfl;have r1:=iU.out.cell 1 _ rfl;have r2:=iU.out.cell 2 _ rfl;have r3:=iU.out.cell 3 _ rfl;exact bodyPost_ret (v:=.agg #[.string ⟨#[116,97,98,108,101]⟩,.string ⟨#[]⟩,.slice none 0 0,.slice a5 2 c5]) (by simp [results,Tryz.results160,go_sem,r0,r1,r2,r3]) rfl (by rw [HTE.out];exact Bc.out)
open Go.RowKit
theorem I6 {ok:Nat->Prop} {w:jl9} {x y:Nd} {c0 c1 c2 c3 d0 d1 d2 d3:jlk} (hm:ok w.heap.size) (hx:Rd ok w x.d [c0,c1,c2,c3]) (hy:Rd ok w y.d [d0,d1,d2,d3]) : Rd ok (w.alloc (.cells #[c0,c1,c2,c3,d0,d1,d2,d3] 43)) (cZ [x,y]) [.slice (some ⟨w.heap.size,0,none⟩) 2 2]:=by
 have hb:jlj w.heap.size w (w.alloc (.cells #[c0,c1,c2,c3,d0,d1,d2,d3] 43)):=(ji7 _ _).alloc (ji8 _) _;have k:CB 43 w.heap.size [c0,c1,c2,c3,d0,d1,d2,d3] (w.alloc (.cells #[c0,c1,c2,c3,d0,d1,d2,d3] 43)):=CB.new _ _ w;have kp:∀ {d:D} {cs:List jlk},Rd ok w d cs->Rd ok (w.alloc (.cells #[c0,c1,c2,c3,d0,d1,d2,d3] 43)) d cs:=fun h=>Rd.keep (fun b hb' hlt=>⟨hb',hb.block b hlt⟩) _ _ h
 exact Rd.slB (l:=[x,y].map Nd.d) (rows:=[[c0,c1,c2,c3],[d0,d1,d2,d3]]) (by simp) (by unfold maxLen;decide) (aP.cons (kp hx) (aP.one (kp hy))) (by simp) hm k.lt (fun j u hu=>k.cell j u (by simpa using hu))
def qP (w:jl9) (E:Nat) (x:Nd) (e:Ending) (w':jl9):Prop:=
 ∃ va vk,e=.returned (.tuple #[.agg #[.string x.nm,.string x.tx,va,vk],.int .i64 (E:Int)])/\jT (w.heap.size<=·) w' x.at_ x.ks va vk/\jlj w.heap.size w w'
theorem qP.of {w w':jl9} {E:Nat} {E':Int} {x:Nd} {v:jlk} (h:rZ w x (.returned v) w') (hE:E'=(E:Int)):qP w E x (.returned (.tuple #[v,.int .i64 E'])) w':=by
 obtain ⟨va,vk,he,h1,h2⟩:=h;subst hE;injection he with he
 subst he;exact ⟨va,vk,rfl,h1,h2⟩
end Go.Proofs.YtclikfjalmcoaaaGreatDoor

