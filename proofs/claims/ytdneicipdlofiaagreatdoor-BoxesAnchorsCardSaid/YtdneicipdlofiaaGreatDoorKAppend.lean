/- The contract of chars.Fold. Contracts of tree.writePlain and tree.Plain. Appends onto rows of the call's own, the source nil or not (after the kit's page of words for memory), and how data read behind them. -/
import Derived.Test.YtdneicipdlofiaaGreatDoorKName
import Derived.Test.YtdneicipdlofiaaGreatDoorKBuilderK
import Derived.Deep.AppendLies
set_option maxHeartbeats 2000000
set_option maxRecDepth 100000
open Go.Lib (hid)
namespace Go.Proofs.YtdneicipdlofiaaGreatDoor
open Go renaming Value->js3
open Go.RowKit
set_option linter.unusedVariables false
set_option linter.unusedSimpArgs false
theorem uQ (s:ByteArray) (i:Nat) (h:i<s.size):i+(Utf8.decode s i).2<=s.size:=by have:=Lib.decodeN_le_n' (s.size-i) (s.get! i).toNat (s.get! (i+1)).toNat (s.get! (i+2)).toNat (s.get! (i+3)).toNat (by omega);rw [Lib.decode_at];omega
theorem KG (c:Nat) (h:c<=1114111):jX c<=1114111:=by unfold jX;(repeat' split)<;>omega
theorem V5 (c:Nat) (h:¬ YA c=true):YA c=false:=by simpa using h
theorem Ni (acc:List Nat):(eY acc).length=0↔acc=[]:=by
 have:=qm acc;constructor
 ·intro h;exact List.length_eq_zero_iff.1 (by omega)
 ·rintro rfl;rfl
def kg (w:World) (k:Nat) (s:ByteArray) (pos:Nat) (l:List UInt8) (wr:World):Prop:=
 Lib.IsBuilderF 117 5 w.heap.size w.heap.size (Lib.byteCells l) wr/\wr.heap[k]?=some (.stringIter s pos)/\Below w.heap.size w wr/\w.heap.size<k
section
variable {w:World} {k:Nat} {s:ByteArray} {pos:Nat} {l l':List UInt8} {wr w':World}
theorem kg.wrote (h:kg w k s pos l wr) (hw:Wrote w.heap.size w.heap.size (Lib.byteCells l++Lib.byteCells l') wr w'):kg w k s pos (l++l') w':=
 ⟨by rw [Lib.byteCells_append];exact hw.1,hw.2.2.iter h.2.1 (by have:=h.2.2.2;omega),h.2.2.1.trans hw.2.1,h.2.2.2⟩
theorem kg.next (h:kg w k s pos l wr) (p:Nat):kg w k s p l (wr.iterAt k s p):=
 ⟨h.1.iterAt h.2.1 p,Lib.iterAt_heap wr k s pos p h.2.1,Lib.below_iterAt h.2.2.1 (k:=k) (by have:=h.2.2.2;omega) s p,h.2.2.2⟩
theorem kg.size (h:kg w k s pos l wr):w.heap.size<=wr.heap.size:=h.2.2.1.size
theorem kg.start (w:World) (s:ByteArray):kg w (w.heap.size+1) s 0 [] ((w.alloc (.cells #[.pointer none,.slice none 0 0] 117)).iter s 0):=by refine ⟨(Lib.IsBuilderF.of (Lib.fresh_isBuilder 117 5 w)).alloc _,?_,((Below.refl _ w).alloc (Nat.le_refl _) _).alloc (by simp) _,by omega⟩;have:=World.iter_heap (w.alloc (.cells #[.pointer none,.slice none 0 0] 117)) s 0;simpa using this
theorem kg.yU (h:kg w k s pos l wr):wr.iterPos k=pos:=by simp only [World.iterPos,h.2.1]
end
def jg2 (w:World) (s:ByteArray) (R:List Nat) (vg:js3) (wr:World):Prop:=
 ∃ (pos:Nat) (acc:List Nat) (gap:Bool),kg w (w.heap.size+1) s pos (eY acc) wr/\vE (lg s pos) gap acc=R/\acc.length<=2*pos/\pos<=s.size/\vg=.bool gap
theorem GA (s:ByteArray) (w:World) (hs:s.size<=1000000000) : Calls Tryz.prog 237 #[.string s] w fun e w'=>e=.returned (.string (zQ s))/\Below w.heap.size w w':=by
 obtain ⟨R,hR⟩:∃ R,R=Us s:=⟨_,rfl⟩;have HS:Hid (zQ s=⟨(eY R).toArray⟩):=by rw [hR];rfl
 have HR:Hid (vE (lg s 0) false []=R):=by rw [hR];rfl
 clear hR;generalize zQ s=V at *;go_enter Tryz.func237,Tryz.ntmps237;go_wp2
 go_loopw [4] (fun vg wr=>jg2 w s R vg wr) (fun _ wr=>s.size-wr.iterPos (w.heap.size+1))
 case atStart=>exact ⟨0,[],false,kg.start w s,HR.out,by simp,by omega,rfl⟩
 case round=>
  obtain ⟨pos,acc,gap,hI,hacc,hal,hps,rfl⟩:=hrel;have HA:=hid hacc;have HI:=hid hI;have hel:=(qm acc).2;clear hacc;by_cases hp:pos<s.size
  ·have hnx:∀ ty,(Instr.next (.pointer (some ⟨w.heap.size+1,0,none⟩)) true ty).run Tryz.prog wr=_:=fun ty=>Lib.run_next_any_at wr (w.heap.size+1) s pos ty hI.2.1 hp
   have hd:=Lib.rune_le s pos;have hwd:=nL s pos;have hle:=uQ s pos hp;have hst:=hid (Bv s pos hp);have HI2:=hid (hI.next (pos+(Utf8.decode s pos).2));clear hI;generalize Utf8.decode s pos=d at *;obtain ⟨d1,d2⟩:=d;simp only at hd hwd hle hnx hst HI2;have hwr:wrap64 (d1:Int)=d1:=IntWalk.wrap64_in _ ⟨by omega,by omega⟩;have CS:=hid (fun w=>DL d1 w hd);by_cases hsp:YA d1=true
   ·rw [hsp] at CS;have MR:=hid hsp;clear hsp;go_wp2_with fail
    refine (CS.out _).mono ?_;rintro e w1 ⟨rfl,rfl⟩;clear hnx hwr;go_wp2;go_roundw;case rel=>exact ⟨pos+d2,acc,true,HI2.out,by rw [<- HA.out,hst.out,vE,if_pos MR.out],by omega,by omega,rfl⟩
    case measure=>rw [HI2.out.yU,HI.out.yU];omega
   ·have hsp:=V5 d1 hsp;rw [hsp] at CS;have MR:=hid hsp;have LN:=hid (fun wi (h:kg w (w.heap.size+1) s (pos+d2) (eY acc) wi)=>(Tryz.Builder_Len_f w.heap.size w.heap.size (Lib.byteCells (eY acc)) wi h.1).mono fun _ _ ⟨he,hw⟩=>(⟨he,hw.symm⟩:_/\wi=_));have hbl:(Lib.byteCells (eY acc)).length=(eY acc).length:=Lib.byteCells_length _;rw [hbl] at LN;have WB:=hid (fun wi (h:kg w (w.heap.size+1) s (pos+d2) (eY acc) wi)=>(mE w.heap.size w.heap.size (Lib.byteCells (eY acc)) 32 wi h.1 (by rw [hbl];omega) h.size).mono fun _ _ ⟨he,hw⟩=>(⟨he,h.wrote (l':=[32]) hw⟩:_/\kg w (w.heap.size+1) s (pos+d2) (eY acc++[32]) _));have hlo:=KG d1 hd;have CL:=hid (fun w=>DN d1 w hd);obtain ⟨A,hA⟩:∃ A,A=if gap&&!acc.isEmpty then acc++[32] else acc:=⟨_,rfl⟩
    have HAE:=hid hA;have hAl:A.length<=acc.length+1:=by rw [hA];split<;>simp
    have jmz:=(qm A).2;have WR:=hid (fun wi (h:kg w (w.heap.size+1) s (pos+d2) (eY A) wi)=>(DR w.heap.size w.heap.size (Lib.byteCells (eY A)) (jX d1:Nat) (by omega) (by omega) wi h.1 (by rw [Lib.byteCells_length];omega) h.size).mono fun _ _ ⟨he,hw⟩=>(⟨he,h.wrote (l':=Lib.encodeRune (jX d1:Nat)) (by rw [Lib.byteCells_encodeRune];exact hw)⟩:_/\kg w (w.heap.size+1) s (pos+d2) (eY A++Lib.encodeRune (jX d1:Nat)) _));have HFA:Hid (Jk gap acc d1=A++[jX d1]):=by rw [hA];rfl
    have hAZ:(eY acc).length=0↔acc=[]:=Ni acc;have HAZ:=hid hAZ;clear hsp hA hAZ hbl;generalize jX d1=lc at *;go_wp2_with fail
    refine (CS.out _).mono ?_;rintro e w1 ⟨rfl,rfl⟩;clear hnx CS;obtain ⟨wi,hwi⟩:∃ wi,wi=wr.iterAt (w.heap.size+1) s (pos+d2):=⟨_,rfl⟩;rw [<- hwi] at HI2 ⊢;clear hwi;go_upto_region 8 with (fail)
    go_cut [19] (fun s19 wx=>s19=.bool (gap&&!acc.isEmpty)/\wi=wx)
    case first=>
     cases gap with
     | false=>
      go_wp2_with fail
      go_meet
      exact ⟨rfl,rfl⟩
     | true=>
      go_wp2_with fail
      refine (LN.out _ HI2.out).mono ?_;rintro e w1 ⟨rfl,rfl⟩;go_wp2_with fail
      go_meet
      refine ⟨?_,rfl⟩;cases acc with
      | nil=>rfl
      | cons x l=>
       have hx:0<(eY (x::l)).length:=by have:=(qm (x::l)).1;simp at this ⊢;omega
       simp [hx]
    case rest=>
     obtain ⟨rfl,rfl⟩:=hcut
     go_upto_if 19 with (fail)
     go_cut [] (fun wx=>kg w (w.heap.size+1) s (pos+d2) (eY A) wx)
     case first=>
      by_cases hga:(gap&&!acc.isEmpty)=true
      ·have hA2:A=acc++[32]:=by rw [HAE.out,if_pos hga]
       have HA2:=hid hA2;clear hA2;rw [hga];go_wp2_with fail
       refine (WB.out _ HI2.out).mono ?_;rintro e w1 ⟨rfl,b1⟩;go_wp2_with fail
       go_meet
       rw [HA2.out,DT,DU];exact b1
      ·have hA2:A=acc:=by rw [HAE.out,if_neg hga]
       have HA2:=hid hA2;have hga:(gap&&!acc.isEmpty)=false:=by simpa using hga
       clear hA2;rw [hga];go_wp2_with fail
       go_meet
       rw [HA2.out];exact HI2.out
     case rest=>
      have HC:=hid hcut;clear hcut;go_wp2_with fail
      refine (CL.out _).mono ?_;rintro e w1 ⟨rfl,rfl⟩;go_wp2_with fail
      refine (WR.out _ HC.out).mono ?_;rintro e w2 ⟨rfl,b2⟩;have B2:=hid b2;clear b2;go_wp2;go_roundw;case rel=>
       refine ⟨pos+d2,A++[lc],false,by rw [DT,DU];exact B2.out,?_,by simp;omega,by omega,rfl⟩;rw [<- HA.out,hst.out,vE,if_neg (by rw [MR.out];decide),HFA.out]
      case measure=>rw [B2.out.yU,HI.out.yU];omega
  ·have hnx:∀ ty,(Instr.next (.pointer (some ⟨w.heap.size+1,0,none⟩)) true ty).run Tryz.prog wr=_:=fun ty=>Lib.run_next_end_at wr (w.heap.size+1) s pos ty hI.2.1 hp
   have ST:=hid (Tryz.Builder_String_any_k w.heap.size w.heap.size (eY acc) wr hI.1 hI.size);have hE:=DW s pos hp;have HE:Hid (acc=R):=by rw [<- HA.out,hE];rfl
   have hb:=hI.2.2.1;clear hI hE;go_wp2_with fail
   refine ST.out.mono ?_;rintro e w1 ⟨rfl,-,b1,-⟩;go_wp2;go_ret;exact ⟨by rw [HS.out,<- HE.out];rfl,hb.trans b1⟩
open Go.RowKit
theorem Rd.below {B:Nat} {w w':World} {d:D} {cs:List js3} (h:Rd (·<B) w d cs) (hb:Below B w w'):Rd (·<B) w' d cs:=
 Rd.keep (fun b hb1 _=>⟨hb1,hb.block b hb1⟩) d cs h
theorem rU.below {B:Nat} {w w':World} {k:Nat} {l:List D} {a:Option Addr} {cap:Nat} (h:rU (·<B) w k l a cap) (hb:Below B w w'):rU (·<B) w' k l a cap:=by
 refine ⟨h.le,h.max,fun hp=>?_⟩;obtain ⟨b,off,h1,h2,h3,h4⟩:=h.at_ hp
 refine ⟨b,off,h1,h2,Jl (hb.block b h2) h3,fun i d hd=>?_⟩;obtain ⟨r,hr,hl,hc⟩:=h4 i d hd;exact ⟨r,hr.below hb,hl,fun j u hu=>by rw [iZ (hb.block b h2)];exact hc j u hu⟩
theorem vF (s:ByteArray):Lib.strCells s=Lib.byteCells s.data.toList:=by simp [Lib.strCells,Lib.byteCells]
open Go.RowKit
theorem Bw (a:Addr) (n:Nat):(a.add n).block=a.block:=by unfold Addr.add;split<;>rfl
def Reads (w:World) (B size:Nat) (A:Option Addr) (n:Nat) (xs:List js3):Prop:=
 xs.length=n*size/\(0<n->∃ ad,A=some ad/\ad.block<B/\∀ j u,xs[j]?=some u->w.cell? (ad.add j)=some u)
section
variable {w w':World} {B B' size n:Nat} {A:Option Addr} {xs:List js3}
theorem Reads.keep (h:Reads w B size A n xs) (hk:∀ p:Addr,p.block<B->w'.cell? p=w.cell? p):Reads w' B size A n xs:=
 ⟨h.1,fun hn=>by
  obtain ⟨ad,e,hb,hc⟩:=h.2 hn;exact ⟨ad,e,hb,fun j u hu=>(hk _ (by rw [Bw];exact hb)).trans (hc j u hu)⟩⟩
theorem Reads.more (h:Reads w B size A n xs) (hB:B<=B'):Reads w B' size A n xs:=
 ⟨h.1,fun hn=>by
  obtain ⟨ad,e,hb,hc⟩:=h.2 hn;exact ⟨ad,e,by omega,hc⟩⟩
theorem Reads.below (h:Reads w B size A n xs) (hb:Below B w w'):Reads w' B size A n xs:=h.keep fun _ hp=>hb.cell hp
theorem Reads.bV {base:Nat} {e:TypeId} {c:Nat} (h:w.ownsRow base e size (.slice A n c) n xs):Reads w w.heap.size size A n xs:=by
 refine ⟨h.1,fun hn=>?_⟩;obtain ⟨g,cap,hv,_,hlt⟩:=h.form hn;have hA:A=some ⟨g,0,none⟩:=by injection hv
 subst hA;exact ⟨_,rfl,hlt,h.cells (g:=g) rfl⟩
end
section
variable {P:Program} (w:World)
theorem qo (base:Nat) (t ty e:TypeId) (i:TypeInfo) (size:Nat) (ht:P.underlying t=some (.slice e)) (hi:P.info? e=some i) (v:js3) (n:Nat) (xs:List js3) (hown:w.ownsRow base e size v n xs) (c:Nat):(Builtin.append_ #[t,t] ty #[v,.slice none 0 c]).run P w=.ok v w:=by
 rcases hown.2 with ⟨rfl,rfl⟩ | ⟨g,cap,cur,rfl,_,_,hnc,_⟩
 ·simp [Builtin.append_,run_underlying ht,sizeOf,typeInfo,hi,Builtin.lenOf,Builtin.firstCells]
 ·simp [Builtin.append_,run_underlying ht,sizeOf,typeInfo,hi,Builtin.lenOf,Builtin.firstCells,hnc,storeCells]
theorem mF (base:Nat) (t ty e:TypeId) (i:TypeInfo) (z:js3) (size bytes:Nat) (ht:P.underlying t=some (.slice e)) (hi:P.info? e=some i) (hz:i.zero=some z) (hsize:i.size=size) (hby:i.bytes=bytes) (hzs:z.cells.size=size) (hsz:0<size) (v:js3) (n:Nat) (xs:List js3) (hown:w.ownsRow base e size v n xs) (B:Nat) (A:Option Addr) (m c:Nat) (news:List js3) (hr:Reads w B size A m news) (h1:∀ u∈news,u.oneCell'=true) (h63:n+m<=maxLen) (hbytes:(n+m)*bytes<=140737488355328) (hbase:base<=w.heap.size) : ∃ v' w',(Builtin.append_ #[t,t] ty #[v,.slice A m c]).run P w=.ok v' w'/\w'.ownsRow base e size v' (n+m) (xs++news)/\w.grownBy w' v.ownBlock /\ (v'.ownBlock=v.ownBlock\/v'.ownBlock=some w.heap.size):=by
 rcases A with _ | ad
 ·have hm:m=0:=by
   rcases Nat.eq_zero_or_pos m with h0 | h0
   ·exact h0
   ·obtain ⟨ad,h,_⟩:=hr.2 h0;cases h
  subst hm;have hn:news=[]:=List.eq_nil_of_length_eq_zero (by simpa using hr.1);subst hn;exact ⟨v,w,qo w base t ty e i size ht hi v n xs hown c,by simpa using hown,World.grownBy.refl w _,.inl rfl⟩
 ·have hcells:∀ j u,news[j]?=some u->w.cell? (ad.add j)=some u:=by
   intro j u hu;rcases Nat.eq_zero_or_pos m with h0 | h0
   ·subst h0;have hn:news=[]:=List.eq_nil_of_length_eq_zero (by simpa using hr.1);subst hn;simp at hu
   ·obtain ⟨ad',h,_,hc⟩:=hr.2 h0;injection h with h
    subst h;exact hc j u hu
  obtain ⟨v',w',hrun,h2,h3,_,h5⟩:=run_append_own_at (P:=P) w base t ty e i z size bytes ht hi hz hsize hby hzs hsz v n xs hown ad m c news hr.1 hcells h1 h63 hbytes hbase;exact ⟨v',w',hrun,h2,h3,h5⟩
theorem oq {o:Oper} {a:Act} {K:Act->World->Prop} {Q:Exit->Act->World->Prop} (s x:Operand) (t:TypeId) (ho:o.op=.call { callee:=.builtin .append,args:=#[s,x],argTypes:=#[t,t] }) (base:Nat) (e:TypeId) (i:TypeInfo) (z:js3) (size bytes:Nat) (ht:P.underlying t=some (.slice e)) (hi:P.info? e=some i) (hz:i.zero=some z) (hsize:i.size=size) (hby:i.bytes=bytes) (hzs:z.cells.size=size) (hsz:0<size) (v:js3) (n:Nat) (xs:List js3) (hs:a.eval s=v) (hown:w.ownsRow base e size v n xs) (B:Nat) (A:Option Addr) (m c:Nat) (news:List js3) (hx:a.eval x=.slice A m c) (hr:Reads w B size A m news) (h1:∀ u∈news,u.oneCell'=true) (h63:n+m<=maxLen) (hbytes:(n+m)*bytes<=140737488355328) (hbase:base<=w.heap.size) (h:∀ v' w',w'.ownsRow base e size v' (n+m) (xs++news)->w.grownBy w' v.ownBlock->(v'.ownBlock=v.ownBlock\/v'.ownBlock=some w.heap.size)->K (a.put o.dst v') w'):o.wp P a w K Q:=by obtain ⟨v',w',hrun,h2,h3,h4⟩:=mF (P:=P) w base t o.type e i z size bytes ht hi hz hsize hby hzs hsz v n xs hown B A m c news hr h1 h63 hbytes hbase;unfold Oper.wp execOp;simp only [ho,resolve,invoke,builtin,Sem.run_bind,Sem.run_pure,Result.andThen_ok,List.map_toArray,List.map_cons,List.map_nil,hs,hx,hrun];exact h v' w' h2 h3 h4
theorem Dy {ops:Array Oper} {rest:List Oper} {o:Oper} {a:Act} {Q:Exit->Act->World->Prop} (hgd:o.guard=none) (s x:Operand) (t:TypeId) (ho:o.op=.call { callee:=.builtin .append,args:=#[s,x],argTypes:=#[t,t] }) (base:Nat) (e:TypeId) (i:TypeInfo) (z:js3) (size bytes:Nat) (ht:P.underlying t=some (.slice e)) (hi:P.info? e=some i) (hz:i.zero=some z) (hsize:i.size=size) (hby:i.bytes=bytes) (hzs:z.cells.size=size) (hsz:0<size) (v:js3) (n:Nat) (xs:List js3) (hs:a.eval s=v) (hown:w.ownsRow base e size v n xs) (B:Nat) (A:Option Addr) (m c:Nat) (news:List js3) (hx:a.eval x=.slice A m c) (hr:Reads w B size A m news) (h1:∀ u∈news,u.oneCell'=true) (h63:n+m<=maxLen) (hbytes:(n+m)*bytes<=140737488355328) (hbase:base<=w.heap.size) (h:∀ v' w',w'.ownsRow base e size v' (n+m) (xs++news)->w.grownBy w' v.ownBlock->(v'.ownBlock=v.ownBlock\/v'.ownBlock=some w.heap.size)->wpList P ops Q rest (a.put o.dst v') w'):wpList P ops Q (o::rest) a w:=
 wpList_plain hgd fun _ hK=>oq w s x t ho base e i z size bytes ht hi hz hsize hby hzs hsz v n xs hs hown B A m c news hx hr h1 h63 hbytes hbase fun v' w' h2 h3 h4=>hK _ _ (h v' w' h2 h3 h4)
theorem uE {ops:Array Oper} {o:Oper} {a:Act} {K:Act->World->Prop} {Q:Exit->Act->World->Prop} {E:Prop} (hgd:o.guard=none) (s x:Operand) (t:TypeId) (ho:o.op=.call { callee:=.builtin .append,args:=#[s,x],argTypes:=#[t,t] }) (base:Nat) (e:TypeId) (i:TypeInfo) (z:js3) (size bytes:Nat) (ht:P.underlying t=some (.slice e)) (hi:P.info? e=some i) (hz:i.zero=some z) (hsize:i.size=size) (hby:i.bytes=bytes) (hzs:z.cells.size=size) (hsz:0<size) (v:js3) (n:Nat) (xs:List js3) (hs:a.eval s=v) (hown:w.ownsRow base e size v n xs) (B:Nat) (A:Option Addr) (m c:Nat) (news:List js3) (hx:a.eval x=.slice A m c) (hr:Reads w B size A m news) (h1:∀ u∈news,u.oneCell'=true) (h63:n+m<=maxLen) (hbytes:(n+m)*bytes<=140737488355328) (hbase:base<=w.heap.size) (h:∀ v' w',w'.ownsRow base e size v' (n+m) (xs++news)->w.grownBy w' v.ownBlock->(v'.ownBlock=v.ownBlock\/v'.ownBlock=some w.heap.size)->K (a.put o.dst v') w') : if Region.wanted o (yielded ops a.tmps)=true then Oper.wp P o a w K Q else E:=by
 have hw:Region.wanted o (yielded ops a.tmps)=true:=by simp [Region.wanted,hgd]
 rw [if_pos hw];exact oq w s x t ho base e i z size bytes ht hi hz hsize hby hzs hsz v n xs hs hown B A m c news hx hr h1 h63 hbytes hbase h
end
theorem Rd.reads {B:Nat} {w:World} {k:Nat} {l:List D} {v:js3} (h:Rd (·<B) w (.sl k l) [v]):∃ A cap rows,v=.slice A l.length cap/\l.length<=cap/\cap<=maxLen/\aL (·<B) w l rows/\(∀ r∈rows,r.length=k)/\Reads w B k A l.length rows.flatten:=by
 unfold Rd at h;obtain ⟨a,cap,rows,h1,h2,h3,h4,h5,h6⟩:=h;refine ⟨a,cap,rows,by simpa using h1,h2,h3,h4,h5,?_,fun hp=>?_⟩
 ·rw [qp k rows h5,h4.len]
 ·rcases h6 with h6 | ⟨b,off,h7,h8,hb,h9⟩
  ·omega
  ·refine ⟨⟨b,off,none⟩,h7,h8,fun j u hu=>?_⟩;have e:((⟨b,off,none⟩:Addr).add j)=⟨b,off+j,none⟩:=by unfold Addr.add;split<;>simp_all
   rw [e];exact h9 j u hu
end Go.Proofs.YtdneicipdlofiaaGreatDoor

