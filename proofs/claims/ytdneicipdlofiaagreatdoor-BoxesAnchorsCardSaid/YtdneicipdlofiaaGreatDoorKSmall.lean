/- publisherref04.heavy: how many parts blocks have. publisherref04.Small: what it says of a document where it answers true. -/
import Derived.Test.YtdneicipdlofiaaGreatDoorKSame
import Derived.Deep.RegionHeld3
set_option maxHeartbeats 8000000
set_option maxRecDepth 100000
open Go.Lib (hid)
namespace Go.Proofs.YtdneicipdlofiaaGreatDoor
open Go.RowKit.Below renaming refl->jox
open Go.RowKit
set_option linter.unusedVariables false
set_option linter.unusedSimpArgs false
mutual
def ah.small:ah->Prop
 | .mk k lv i t d ti a li ks=>i.size<=300/\t.size<=300/\d.size<=300/\ti.size<=300/\a.short/\aj.aG li/\aj.aX li<=120/\ah.aG ks
def ah.aG:List ah->Prop
 | []=>True
 | x::l=>x.small/\ah.aG l
end
mutual
def ah.all:ah->Nat
 | .mk _ _ _ _ _ _ _ li ks=>1+aj.aX li+ah.aZ ks
def ah.aZ:List ah->Nat
 | []=>0
 | x::l=>x.all+ah.aZ l
end
theorem ah.jG:∀ (l m:List ah),ah.aG l->ah.aG m->ah.aG (l++m)
 | [],m,_,h=>h
 | x::l,m,h,h2=>by unfold ah.aG at h;rw [List.cons_append];unfold ah.aG;exact ⟨h.1,ah.jG l m h.2 h2⟩
theorem ah.gZ {l:List ah} {k:Nat} {x:ah} (hx:l[k]?=some x) (h:ah.aG (l.take k)) (h2:x.small):ah.aG (l.take (k+1)):=by rw [List.take_add_one,hx];exact ah.jG _ _ h (by unfold Option.toList ah.aG;exact ⟨h2,by unfold ah.aG;trivial⟩)
theorem ah.F9 (l m:List ah):ah.aZ (l++m)=ah.aZ l+ah.aZ m:=by
 induction l with
 | nil=>rw [ah.aZ];simp
 | cons x l ih=>rw [List.cons_append,ah.aZ,ah.aZ,ih];omega
theorem ah.kY {l:List ah} {k:Nat} {x:ah} (hx:l[k]?=some x):ah.aZ (l.take (k+1))=ah.aZ (l.take k)+x.all:=by rw [List.take_add_one,hx,ah.F9];simp [ah.aZ]
theorem ah.rP:∀ {l:List ah} {k:Nat} {x:ah},ah.uL l->l[k]?=some x->x.wf
 | [],_,_,_,h=>by simp at h
 | y::l,0,x,hw,h=>by unfold ah.uL at hw;simp at h;subst h;exact hw.1
 | y::l,k+1,x,hw,h=>by unfold ah.uL at hw;exact ah.rP hw.2 (by simpa using h)
theorem dx.at2 {w w':World} {b o:Nat} {k lv:Int} {i t d ti id:ByteArray} {vc vp vl vk:Value} (h:dx w b o k lv i t d ti id vc vp vl vk) (hb:w'.heap[b]?=w.heap[b]?):dx w' b o k lv i t d ti id vc vp vl vk:=by obtain ⟨c0,c1,c2,c3,c4,c5,c6,c7,c8,c9,c10⟩:=h;exact ⟨(iZ hb _).trans c0,(iZ hb _).trans c1,(iZ hb _).trans c2,(iZ hb _).trans c3,(iZ hb _).trans c4,(iZ hb _).trans c5,(iZ hb _).trans c6,(iZ hb _).trans c7,(iZ hb _).trans c8,(iZ hb _).trans c9,(iZ hb _).trans c10⟩
theorem iY {x:Int} (h1:-9223372036854775808<=x) (h2:x<=9223372036854775807):IntKind.i64.wrap x=x:=by rw [IntKind.wrap_i64];omega
def hvB (dp:Nat):Nat:=(22-dp)*(23*140737488355328)
def QO (w:World) (l:List ah) (dp:Nat) (e:Ending) (w':World):Prop:=
 ∃ m:Nat,e=.returned (.int .i64 m)/\m<=hvB dp/\(m<=120->ah.aG l/\ah.aZ l<=m)/\Below w.heap.size w w'
def V3 (w:World) (l:List ah) (dp:Nat) (vn vi:Value) (wr:World):Prop:=
 ∃ k n:Nat,k<=l.length/\vi=.int .i64 k/\vn=.int .i64 n/\n<=hvB dp/\(n<=120->ah.aG (l.take k)/\ah.aZ (l.take k)+(l.length-k)<=n)/\Below w.heap.size w wr
theorem MQ (n:Nat):∀ (l:List ah) (dp:Nat) (v:Value) (w:World),ah.aX l<=n->dp<=21->Rd (·<w.heap.size) w (om l) [v]->ah.uL l -> Calls Tryz.prog 24 #[v,.int .i64 dp] w (QO w l dp):=by
 induction n using Nat.strongRecOn with
 | _ n ih=>
  intro l dp v w hn hdp hrd hwf;obtain ⟨a,cap,hv,hs⟩:=Rd.aC hrd;obtain rfl:v=.slice a l.length cap:=by simpa using hv
  have hcap:l.length<=cap:=by simpa using hs.le
  have hmx:=hs.max;unfold maxLen at hmx;have HS:=hid hs;have IH:=hid ih;have Jm:=hid hwf;clear hs hv hrd ih hwf;by_cases hd:20<dp
  ·have e1:decide ((20:Int)<(dp:Int))=true:=by simp;omega
   clear HS IH Jm;go_enter Tryz.func24,Tryz.ntmps24;go_wp2;go_ret;exact ⟨1000,rfl,by unfold hvB;omega,(fun h=>by omega),jox _ _⟩
  have e1:decide ((20:Int)<(dp:Int))=false:=by simp;omega
  by_cases h2:200<l.length
  ·have e2:decide ((200:Int)<(l.length:Int))=true:=by simp;omega
   clear HS IH Jm;go_enter Tryz.func24,Tryz.ntmps24;go_wp2;go_ret;exact ⟨1000,rfl,by unfold hvB;omega,(fun h=>by omega),jox _ _⟩
  have e2:decide ((200:Int)<(l.length:Int))=false:=by simp;omega
  have R0:Hid (V3 w l dp (.int .i64 l.length) (.int .i64 0) w):=⟨0,l.length,Nat.zero_le _,rfl,rfl,by unfold hvB;omega,(fun _=>⟨by rw [List.take_zero];unfold ah.aG;trivial,by rw [List.take_zero,ah.aZ];omega⟩),jox _ _⟩;go_enter Tryz.func24,Tryz.ntmps24;go_wp2
  go_loopw [5,6] (fun vn vi wr=>V3 w l dp vn vi wr) (fun _ i _=>l.length-(intOf i).toNat)
  case atStart=>exact R0.out
  case round=>
   clear R0;obtain ⟨k,m,hk,rfl,rfl,hm,hall,hbel⟩:=hrel;have mM:=hid hall;have kW:=hid hbel;clear hall hbel;unfold hvB at hm;by_cases hlt:k<l.length
   ·by_cases hm1:m<1000
    ·have e3:decide ((m:Int)<(1000:Int))=true:=by simp;omega
     obtain ⟨x,hx⟩:∃ x,l[k]?=some x:=⟨_,List.getElem?_eq_getElem hlt⟩;obtain ⟨kd,lv,inf,t,d,ti,at_,li,ks⟩:=x;obtain ⟨g,off,vc,vp,vl,vk,rfl,hok,hbl,hc,hR⟩:=dH HS.out hx;have hx2:=ah.rP Jm.out hx;unfold ah.wf vD at hx2;obtain ⟨x0,x1,x2,x3,x4,x5,x6,x7,x8,x9,x10⟩:=hx2;rw [jW] at x2 x3 x4 x5;unfold zP at x2 x3 x4 x5;have hsz:=ah.bP l k _ hx;rw [ah.sz] at hsz;obtain ⟨ac,nc,cc,rfl⟩:=Rd.zO hR.at_.cls
     obtain ⟨ap,np,cp,rfl⟩:=Rd.zO hR.at_.aJ
     obtain ⟨al,nl,cl,rfl⟩:=Rd.zO hR.line;obtain ⟨ak,nk,ck,rfl⟩:=Rd.zO hR.kids;obtain ⟨c0,c1,c2,c3,c4,c5,c6,c7,c8,c9,c10⟩:=hc.at2 (w':=wr) (kW.out.block g hok);have HR:=hid hR;have HX:=hid hx;have X6:=hid x6;have X7:=hid x7;have X9:=hid x9;clear hc hR hx x0 x1 x6 x7 x8 x9 x10;go_upto_region 8 with (fail)
     obtain ⟨wa,zq⟩:∃ wa,wa=wr.alloc (.cells #[.int .i64 kd,.int .i64 lv,.string inf,.string t,.string d,.string ti,.string at_.id,.slice ac nc cc,.slice ap np cp,.slice al nl cl,.slice ak nk ck] 40):=⟨_,rfl⟩;have hcb:CB 40 wr.heap.size [.int .i64 kd,.int .i64 lv,.string inf,.string t,.string d,.string ti,.string at_.id,.slice ac nc cc,.slice ap np cp,.slice al nl cl,.slice ak nk ck] wa:=by rw [zq];exact CB.new _ _ _
     have hba:Below w.heap.size w wa:=by rw [zq];exact kW.out.alloc kW.out.size _
     rw [<- zq];clear zq c0 c1 c2 c3 c4 c5 c6 c7 c8 c9 c10;have d2:=hcb.cell 2 _ rfl;have d3:=hcb.cell 3 _ rfl;have d4:=hcb.cell 4 _ rfl;have d5:=hcb.cell 5 _ rfl;have d6:=hcb.cell 6 _ rfl;have d7:=hcb.cell 7 _ rfl;have d8:=hcb.cell 8 _ rfl;have WA:=hid hcb;have Rz:=hid hba;have LG:=hid (Gl at_ _ _ wa (HR.out.at_.up hba) X6.out);clear hcb hba;by_cases h3:300<t.size+inf.size+d.size+ti.size
     ·have e4:decide ((300:Int)<(t.size:Int)+(inf.size:Int)+(d.size:Int)+(ti.size:Int))=true:=by simp;omega
      go_wp2;go_ret;exact ⟨1000,rfl,by unfold hvB;omega,(fun h=>by omega),Rz.out⟩
     have e4:decide ((300:Int)<(t.size:Int)+(inf.size:Int)+(d.size:Int)+(ti.size:Int))=false:=by simp;omega
     go_wp2_with fail
     refine LG.out.mono ?_;rintro e wb ⟨b,rfl,hsh,hbb⟩;have QK:=aP Rz.out hbb;have Dx:=WA.out.below hbb;have d9:=Dx.cell 9 _ rfl;have d10:=Dx.cell 10 _ rfl;have R6:=hid hsh;have DK:=hid QK;have Ur:=hid Dx;clear LG Rz WA d2 d3 d4 d5 d6 d7 d8 hsh hbb QK Dx;cases b with
     | true=>
      go_wp2;go_ret;exact ⟨1000,rfl,by unfold hvB;omega,(fun h=>by omega),DK.out⟩
     | false=>
     have S0:wb.drew.cell? ⟨wr.heap.size,9,none⟩=some (.slice al nl cl)/\wb.drew.cell? ⟨wr.heap.size,10,none⟩=some (.slice ak nk ck)/\Below wb.heap.size wb wb.drew:=⟨d9,d10,eZ (jox _ _) 1⟩;have CW:Hid (∀ w',Below wb.heap.size wb w'->Calls Tryz.prog 56 #[.slice al nl cl,.int .i64 0] w' fun e w''=>∃ m:Nat,e=.returned (.int .i64 m)/\m<=22*140737488355328/\(m<=120->aj.aG li/\aj.aX li<=m)/\w''.cell? ⟨wr.heap.size,9,none⟩=some (.slice al nl cl)/\w''.cell? ⟨wr.heap.size,10,none⟩=some (.slice ak nk ck)/\Below wb.heap.size wb w''):=by intro w' hb;refine (Jj (aj.aX li) li 0 (.slice al nl cl) w' (Nat.le_refl _) (by omega) ((HR.out.line.up DK.out).up hb) X7.out).mono ?_;rintro e w'' ⟨m,rfl,h1,h2,h3⟩;have hb2:=aP hb h3;have hc:=Ur.out.below hb2;exact ⟨m,rfl,h1,h2,hc.cell 9 _ rfl,hc.cell 10 _ rfl,hb2⟩
     have CH:Hid (∀ w',Below wb.heap.size wb w'->Calls Tryz.prog 24 #[.slice ak nk ck,.int .i64 ((dp:Int)+1)] w' fun e w''=>∃ m:Nat,e=.returned (.int .i64 m)/\m<=(22-(dp+1))*(23*140737488355328)/\(m<=120->ah.aG ks/\ah.aZ ks<=m)/\w''.cell? ⟨wr.heap.size,9,none⟩=some (.slice al nl cl)/\w''.cell? ⟨wr.heap.size,10,none⟩=some (.slice ak nk ck)/\Below wb.heap.size wb w''):=by intro w' hb;refine (IH.out (ah.aX ks) (by omega) ks (dp+1) (.slice ak nk ck) w' (Nat.le_refl _) (by omega) ((HR.out.kids.up DK.out).up hb) X9.out).mono ?_;rintro e w'' ⟨m,rfl,h1,h2,h3⟩;have hb2:=aP hb h3;have hc:=Ur.out.below hb2;exact ⟨m,rfl,h1,h2,hc.cell 9 _ rfl,hc.cell 10 _ rfl,hb2⟩
     have IHW:=IH;clear IH HS Jm;go_wp2_with fail
     refine wp_region_any (by kernel_rfl) ?_;change wpAny _ _ _ _ _ _ _ (World.drew _);refine wpAny_take (i := 0) (oi := { dst := some 51, op := Op.move (Operand.tmp 5), type := 3, pos := "ref.go:633", after := #[], guard := none }) (v := ?jo5) rfl (by kernel_rfl) (by kernel_rfl) (by kernel_rfl) (fun _ _ _ h => h) (Or.inl ⟨by rfl, ?jlz⟩) ?_;case jlz=>(intro w;go_simp;try (with_reducible rfl))
     refine wpAny_take (i := 1) (oi := { dst := some 52, op := Op.fieldAddr 40 (Operand.tmp 7) 7, type := 0, pos := "ref.go:633", after := #[], guard := none }) (v := ?jo6) rfl (by kernel_rfl) (by kernel_rfl) (by kernel_rfl) (fun _ _ _ h => h) (Or.inl ⟨by rfl, ?jm0⟩) ?_;case jm0=>(intro w;go_simp;try (with_reducible rfl))
     refine wpAny_take (i := 4) (oi := { dst := some 55, op := Op.fieldAddr 40 (Operand.tmp 7) 8, type := 0, pos := "ref.go:633", after := #[], guard := none }) (v := ?jo7) rfl (by kernel_rfl) (by kernel_rfl) (by kernel_rfl) (fun _ _ _ h => h) (Or.inl ⟨by rfl, ?jm1⟩) ?_;case jm1=>(intro w;go_simp;try (with_reducible rfl))
     refine wpAny_take (i := 6) (oi := { dst := some 57, op := Op.move (Operand.tmp 1), type := 3, pos := "ref.go:633", after := #[], guard := none }) (v := ?jo8) rfl (by kernel_rfl) (by kernel_rfl) (by kernel_rfl) (fun _ _ _ h => h) (Or.inl ⟨by rfl, ?jm2⟩) ?_;case jm2=>(intro w;go_simp;try (with_reducible rfl))
     refine wpAny_take (i := 7) (oi := { dst := some 58, op := Op.binOp BinOp.add 3 (Operand.tmp 57) (Operand.const (Value.int IntKind.i64 1)) 3, type := 3, pos := "ref.go:633", after := #[{ on := 6, ground := Ground.data }], guard := none }) (v := .int .i64 ((dp : Int) + 1)) rfl (by kernel_rfl) (by kernel_rfl) (by kernel_rfl) (fun _ _ _ h => h) (Or.inl ⟨by rfl, ?jm3⟩) ?_;case jm3=>(intro w;go_simp;try (exact iY (by omega) (by omega)))
     refine wpAny_ready (rs:=[2,5]) (by kernel_rfl) (by simp) ?_;refine AllReady.cons rfl (fun K hK=>?_) (AllReady.cons rfl (fun K hK=>?_) AllReady.nil)
     ·
      go_simp;refine hK _ _ ?_;clear hK K;refine wpAny_ready (rs:=[3,5]) (by kernel_rfl) (by simp) ?_;refine AllReady.cons rfl (fun K hK=>?_) (AllReady.cons rfl (fun K hK=>?_) AllReady.nil)
      ·
       go_simp;refine (CW.out _ S0.2.2).mono ?_;rintro e w6 ⟨wk,rfl,hwk,yJ,g9,g10,b6⟩;have HW2:=hid yJ;clear yJ;dsimp only;refine hK _ _ ?_;clear hK K;refine wpAny_ready (rs:=[5]) (by kernel_rfl) (by simp) ?_;refine AllReady.cons rfl (fun K hK=>?_) AllReady.nil;go_simp;refine hK _ _ ?_;clear hK K;refine wpAny_ready (rs:=[8]) (by kernel_rfl) (by simp) ?_;refine AllReady.cons rfl (fun K hK=>?_) AllReady.nil;go_simp;refine (CH.out _ b6).mono ?_;rintro e w7 ⟨hv,rfl,hhv,Gm,-,-,b7⟩;have HH2:=hid Gm;have HB7:=hid (aP DK.out b7);clear Gm;dsimp only;refine hK _ _ ?_;clear hK K;refine wpAny_take (i := 9) (oi := { dst := some 60, op := Op.binOp BinOp.add 3 (Operand.tmp 54) (Operand.tmp 59) 3, type := 3, pos := "ref.go:633", after := #[{ on := 3, ground := Ground.data }, { on := 8, ground := Ground.data }], guard := none }) (v := .int .i64 ((wk : Int) + (hv : Int))) rfl (by kernel_rfl) (by kernel_rfl) (by kernel_rfl) (fun _ _ _ h => h) (Or.inl ⟨by rfl, ?jm4⟩) ?_;case jm4=>(intro w;go_simp;try (exact iY (by omega) (by omega)))
       refine wpAny_take (i := 10) (oi := { dst := some 61, op := Op.binOp BinOp.add 3 (Operand.tmp 51) (Operand.tmp 60) 3, type := 3, pos := "ref.go:633", after := #[{ on := 0, ground := Ground.data }, { on := 9, ground := Ground.data }], guard := none }) (v := .int .i64 ((m : Int) + ((wk : Int) + (hv : Int)))) rfl (by kernel_rfl) (by kernel_rfl) (by kernel_rfl) (fun _ _ _ h => h) (Or.inl ⟨by rfl, ?jfz⟩) ?_;case jfz=>(intro w;go_simp;try (exact iY (by omega) (by omega)))
       refine wpAny_take (i := 11) (oi := { dst := some 5, op := Op.assign (Operand.tmp 61), type := 3, pos := "ref.go:633", after := #[{ on := 10, ground := Ground.data }, { on := 8, ground := Ground.chain }, { on := 0, ground := Ground.phase }, { on := 1, ground := Ground.phase }, { on := 2, ground := Ground.phase }, { on := 3, ground := Ground.phase }, { on := 4, ground := Ground.phase }, { on := 5, ground := Ground.phase }, { on := 6, ground := Ground.phase }, { on := 7, ground := Ground.phase }, { on := 8, ground := Ground.phase }, { on := 9, ground := Ground.phase }, { on := 10, ground := Ground.phase }], guard := none }) (v := ?jmx) rfl (by kernel_rfl) (by kernel_rfl) (by kernel_rfl) (fun _ _ _ h => h) (Or.inl ⟨by rfl, ?jg0⟩) ?_;case jg0=>(intro w;go_simp;try (with_reducible rfl))
       refine wpAny_done (by kernel_rfl) ?_ _;go_wp2;go_roundw;case rel=>
        refine ⟨k+1,m+(wk+hv),by omega,by go_num,by go_num,by unfold hvB;omega,(fun h=>?_),HB7.out⟩;obtain ⟨i1,i2⟩:=mM.out (by omega);obtain ⟨j1,j2⟩:=HW2.out (by omega);obtain ⟨l1,l2⟩:=HH2.out (by omega);have hsn:=ah.kY HX.out;rw [ah.all] at hsn;refine ⟨ah.gZ HX.out i1 (by unfold ah.small;exact ⟨by omega,by omega,by omega,by omega,R6.out trivial,j1,by omega,l1⟩),by omega⟩
       case measure=>simp [intOf];omega
      ·
       go_simp;refine hK _ _ ?_;clear hK K;refine wpAny_ready (rs:=[3]) (by kernel_rfl) (by simp) ?_;refine AllReady.cons rfl (fun K hK=>?_) AllReady.nil;go_simp;refine (CW.out _ S0.2.2).mono ?_;rintro e w6 ⟨wk,rfl,hwk,yJ,g9,g10,b6⟩;have HW2:=hid yJ;clear yJ;dsimp only;refine hK _ _ ?_;clear hK K;refine wpAny_ready (rs:=[8]) (by kernel_rfl) (by simp) ?_;refine AllReady.cons rfl (fun K hK=>?_) AllReady.nil;go_simp;refine (CH.out _ b6).mono ?_;rintro e w7 ⟨hv,rfl,hhv,Gm,-,-,b7⟩;have HH2:=hid Gm;have HB7:=hid (aP DK.out b7);clear Gm;dsimp only;refine hK _ _ ?_;clear hK K;refine wpAny_take (i := 9) (oi := { dst := some 60, op := Op.binOp BinOp.add 3 (Operand.tmp 54) (Operand.tmp 59) 3, type := 3, pos := "ref.go:633", after := #[{ on := 3, ground := Ground.data }, { on := 8, ground := Ground.data }], guard := none }) (v := .int .i64 ((wk : Int) + (hv : Int))) rfl (by kernel_rfl) (by kernel_rfl) (by kernel_rfl) (fun _ _ _ h => h) (Or.inl ⟨by rfl, ?jm5⟩) ?_;case jm5=>(intro w;go_simp;try (exact iY (by omega) (by omega)))
       refine wpAny_take (i := 10) (oi := { dst := some 61, op := Op.binOp BinOp.add 3 (Operand.tmp 51) (Operand.tmp 60) 3, type := 3, pos := "ref.go:633", after := #[{ on := 0, ground := Ground.data }, { on := 9, ground := Ground.data }], guard := none }) (v := .int .i64 ((m : Int) + ((wk : Int) + (hv : Int)))) rfl (by kernel_rfl) (by kernel_rfl) (by kernel_rfl) (fun _ _ _ h => h) (Or.inl ⟨by rfl, ?Yw⟩) ?_;case Yw=>(intro w;go_simp;try (exact iY (by omega) (by omega)))
       refine wpAny_take (i := 11) (oi := { dst := some 5, op := Op.assign (Operand.tmp 61), type := 3, pos := "ref.go:633", after := #[{ on := 10, ground := Ground.data }, { on := 8, ground := Ground.chain }, { on := 0, ground := Ground.phase }, { on := 1, ground := Ground.phase }, { on := 2, ground := Ground.phase }, { on := 3, ground := Ground.phase }, { on := 4, ground := Ground.phase }, { on := 5, ground := Ground.phase }, { on := 6, ground := Ground.phase }, { on := 7, ground := Ground.phase }, { on := 8, ground := Ground.phase }, { on := 9, ground := Ground.phase }, { on := 10, ground := Ground.phase }], guard := none }) (v := ?jm6) rfl (by kernel_rfl) (by kernel_rfl) (by kernel_rfl) (fun _ _ _ h => h) (Or.inl ⟨by rfl, ?Yx⟩) ?_;case Yx=>(intro w;go_simp;try (with_reducible rfl))
       refine wpAny_done (by kernel_rfl) ?_ _;go_wp2;go_roundw;case rel=>
        refine ⟨k+1,m+(wk+hv),by omega,by go_num,by go_num,by unfold hvB;omega,(fun h=>?_),HB7.out⟩;obtain ⟨i1,i2⟩:=mM.out (by omega);obtain ⟨j1,j2⟩:=HW2.out (by omega);obtain ⟨l1,l2⟩:=HH2.out (by omega);have hsn:=ah.kY HX.out;rw [ah.all] at hsn;refine ⟨ah.gZ HX.out i1 (by unfold ah.small;exact ⟨by omega,by omega,by omega,by omega,R6.out trivial,j1,by omega,l1⟩),by omega⟩
       case measure=>simp [intOf];omega
     ·
      go_simp;refine hK _ _ ?_;clear hK K;refine wpAny_ready (rs:=[2]) (by kernel_rfl) (by simp) ?_;refine AllReady.cons rfl (fun K hK=>?_) AllReady.nil;go_simp;refine hK _ _ ?_;clear hK K;refine wpAny_ready (rs:=[3]) (by kernel_rfl) (by simp) ?_;refine AllReady.cons rfl (fun K hK=>?_) AllReady.nil;go_simp;refine (CW.out _ S0.2.2).mono ?_;rintro e w6 ⟨wk,rfl,hwk,yJ,g9,g10,b6⟩;have HW2:=hid yJ;clear yJ;dsimp only;refine hK _ _ ?_;clear hK K;refine wpAny_ready (rs:=[8]) (by kernel_rfl) (by simp) ?_;refine AllReady.cons rfl (fun K hK=>?_) AllReady.nil;go_simp;refine (CH.out _ b6).mono ?_;rintro e w7 ⟨hv,rfl,hhv,Gm,-,-,b7⟩;have HH2:=hid Gm;have HB7:=hid (aP DK.out b7);clear Gm;dsimp only;refine hK _ _ ?_;clear hK K;refine wpAny_take (i := 9) (oi := { dst := some 60, op := Op.binOp BinOp.add 3 (Operand.tmp 54) (Operand.tmp 59) 3, type := 3, pos := "ref.go:633", after := #[{ on := 3, ground := Ground.data }, { on := 8, ground := Ground.data }], guard := none }) (v := .int .i64 ((wk : Int) + (hv : Int))) rfl (by kernel_rfl) (by kernel_rfl) (by kernel_rfl) (fun _ _ _ h => h) (Or.inl ⟨by rfl, ?jg1⟩) ?_;case jg1=>(intro w;go_simp;try (exact iY (by omega) (by omega)))
      refine wpAny_take (i := 10) (oi := { dst := some 61, op := Op.binOp BinOp.add 3 (Operand.tmp 51) (Operand.tmp 60) 3, type := 3, pos := "ref.go:633", after := #[{ on := 0, ground := Ground.data }, { on := 9, ground := Ground.data }], guard := none }) (v := .int .i64 ((m : Int) + ((wk : Int) + (hv : Int)))) rfl (by kernel_rfl) (by kernel_rfl) (by kernel_rfl) (fun _ _ _ h => h) (Or.inl ⟨by rfl, ?Yy⟩) ?_;case Yy=>(intro w;go_simp;try (exact iY (by omega) (by omega)))
      refine wpAny_take (i := 11) (oi := { dst := some 5, op := Op.assign (Operand.tmp 61), type := 3, pos := "ref.go:633", after := #[{ on := 10, ground := Ground.data }, { on := 8, ground := Ground.chain }, { on := 0, ground := Ground.phase }, { on := 1, ground := Ground.phase }, { on := 2, ground := Ground.phase }, { on := 3, ground := Ground.phase }, { on := 4, ground := Ground.phase }, { on := 5, ground := Ground.phase }, { on := 6, ground := Ground.phase }, { on := 7, ground := Ground.phase }, { on := 8, ground := Ground.phase }, { on := 9, ground := Ground.phase }, { on := 10, ground := Ground.phase }], guard := none }) (v := ?jm7) rfl (by kernel_rfl) (by kernel_rfl) (by kernel_rfl) (fun _ _ _ h => h) (Or.inl ⟨by rfl, ?Yz⟩) ?_;case Yz=>(intro w;go_simp;try (with_reducible rfl))
      refine wpAny_done (by kernel_rfl) ?_ _;go_wp2;go_roundw;case rel=>
       refine ⟨k+1,m+(wk+hv),by omega,by go_num,by go_num,by unfold hvB;omega,(fun h=>?_),HB7.out⟩;obtain ⟨i1,i2⟩:=mM.out (by omega);obtain ⟨j1,j2⟩:=HW2.out (by omega);obtain ⟨l1,l2⟩:=HH2.out (by omega);have hsn:=ah.kY HX.out;rw [ah.all] at hsn;refine ⟨ah.gZ HX.out i1 (by unfold ah.small;exact ⟨by omega,by omega,by omega,by omega,R6.out trivial,j1,by omega,l1⟩),by omega⟩
      case measure=>simp [intOf];omega
    ·have e3:decide ((m:Int)<(1000:Int))=false:=by simp;omega
     clear HS IH Jm;go_wp2;go_ret;exact ⟨m,rfl,by unfold hvB;omega,(fun h=>by omega),kW.out⟩
   ·have hkl:k=l.length:=by omega
    subst hkl;clear HS IH Jm;go_wp2;go_ret;refine ⟨m,rfl,by unfold hvB;omega,(fun h=>?_),kW.out⟩;have:=mM.out h;rw [List.take_length] at this;exact ⟨this.1,by omega⟩
open Go.RowKit
structure U8 (me:List Pr) (l:List ah):Prop where
 meta_:me.length<=70
 ji8:∀ p∈me,p.key.size<=300/\p.val.size<=300
 blks:ah.aG l
 all:ah.aZ l<=120
def V4 (me:List Pr) (w0:World) (vi:Value) (wr:World):Prop:=∃ k q:Nat,k<=me.length/\vi=.int .i64 k/\(∀ p∈me.take k,p.key.size<=300/\p.val.size<=300)/\wr=w0.drewN q
theorem LB (me:List Pr) (l:List ah) (vm vb:Value) (w:World) (hm:Rd (·<w.heap.size) w (Co me) [vm]) (hb:Rd (·<w.heap.size) w (om l) [vb]) (JJ:∀ p∈me,p.wf) (hwl:ah.uL l) : Calls Tryz.prog 9 #[.agg #[vm,vb]] w fun e w'=>∃ b,e=.returned (.bool b)/\(b=true->U8 me l)/\Below w.heap.size w w':=by
 obtain ⟨am,cm,sw,hsm⟩:=Rd.aC hm;obtain rfl:vm=.slice am me.length cm:=by simpa using sw
 have hcm:me.length<=cm:=by simpa using hsm.le
 have hmm:=hsm.max;unfold maxLen at hmm;obtain ⟨ab,nb,cb,rfl⟩:=Rd.zO hb;obtain ⟨w0,hw0⟩:∃ w0,w0=w.alloc (.cells #[.slice am me.length cm,.slice ab nb cb] 25):=⟨_,rfl⟩;have hb0:Below w.heap.size w w0:=by rw [hw0];exact (jox _ _).alloc (Nat.le_refl _) _
 have q0:w0.cell? ⟨w.heap.size,0,none⟩=some (.slice am me.length cm):=by rw [hw0];exact q16 w [.slice am me.length cm,.slice ab nb cb] _ 0 _ rfl
 have q1:w0.cell? ⟨w.heap.size,1,none⟩=some (.slice ab nb cb):=by rw [hw0];exact q16 w [.slice am me.length cm,.slice ab nb cb] _ 1 _ rfl
 have HP:Hid (∀ k p,me[k]?=some p->∃ b off,am=some ⟨b,off,none⟩/\w0.cell? ⟨b,off+k*2,none⟩=some (.string p.key)/\w0.cell? ⟨b,off+k*2+1,none⟩=some (.string p.val)/\p.key.size<=140737488351232/\p.val.size<=140737488351232):=by intro k p hp;obtain ⟨b,off,ha,hok,hb,c0,c1⟩:=CU hsm hp;have hw:=JJ p (List.mem_of_getElem? hp);unfold Pr.wf vD at hw;rw [jW] at hw;exact ⟨b,off,ha,(iZ (hb0.block b hok) _).trans c0,(iZ (hb0.block b hok) _).trans c1,hw⟩
 have HV:Hid (∀ q,Calls Tryz.prog 24 #[.slice ab nb cb,.int .i64 0] (w0.drewN q) (QO (w0.drewN q) l 0)):=fun q=>MQ (ah.aX l) l 0 (.slice ab nb cb) (w0.drewN q) (Nat.le_refl _) (by omega) ((hb.up hb0).up (eZ (jox _ _) q)) hwl
 have HB0:=hid hb0;clear hm hb hsm sw JJ hwl hb0;by_cases h70:70<me.length
 ·have e1:decide ((70:Int)<(me.length:Int))=true:=by simp;omega
  clear HP HV;go_enter Tryz.func9,Tryz.ntmps9;go_upto_region 1 with (fail)
  rw [<- hw0];clear hw0;go_wp2;go_ret;exact ⟨false,rfl,(fun h=>by cases h),HB0.out⟩
 have e1:decide ((70:Int)<(me.length:Int))=false:=by simp;omega
 have R1:Hid (V4 me w0 (.int .i64 0) w0):=⟨0,0,Nat.zero_le _,rfl,by simp,rfl⟩;go_enter Tryz.func9,Tryz.ntmps9;go_upto_region 1 with (fail)
 rw [<- hw0];clear hw0;go_wp2
 go_loopw [3] (fun vi wr=>V4 me w0 vi wr) (fun i _=>me.length-(intOf i).toNat)
 case atStart=>exact R1.out
 case round=>
  clear R1;obtain ⟨k,q,hk,rfl,hall,rfl⟩:=hrel;have HA:=hid hall;clear hall;by_cases hlt:k<me.length
  ·obtain ⟨p,hp⟩:∃ p,me[k]?=some p:=⟨_,List.getElem?_eq_getElem hlt⟩;obtain ⟨b,off,rfl,c0,c1,hy1,hy2⟩:=HP.out k p hp;have HY:=hid hp;clear hp;obtain ⟨py,pv⟩:=p;dsimp only at c0 c1 hy1 hy2;by_cases h3:300<py.size+pv.size
   ·have e2:decide ((300:Int)<(py.size:Int)+(pv.size:Int))=true:=by simp;omega
    go_wp2_with fail
    go_quiet (fail)
    go_wp2;go_ret;exact ⟨false,rfl,(fun h=>by cases h),eZ (eZ HB0.out q) nq⟩
   ·have e2:decide ((300:Int)<(py.size:Int)+(pv.size:Int))=false:=by simp;omega
    go_wp2_with fail
    go_quiet (fail)
    go_wp2;go_roundw;case rel=>exact ⟨k+1,_,by omega,by go_num,q1w HY.out HA.out ⟨by show py.size<=300;omega,by show pv.size<=300;omega⟩,rfl⟩
    case measure=>simp [intOf];omega
  ·have hkl:k=me.length:=by omega
   subst hkl;clear HP;go_wp2_with fail
   refine (HV.out q).mono ?_;rintro e w2 ⟨m,rfl,hm1,hm2,hb2⟩;have HM2:=hid hm2;have HB2:=hid (aP (eZ HB0.out q) hb2);clear hm2 hb2 HV;by_cases h1:m<=120
   ·have e3:decide ((m:Int)<=(120:Int))=true:=by simp;omega
    go_wp2;go_ret;refine ⟨true,rfl,fun _=>?_,HB2.out⟩;obtain ⟨i1,i2⟩:=HM2.out h1;have hA:=HA.out;rw [List.take_length] at hA;exact ⟨by omega,hA,i1,by omega⟩
   ·have e3:decide ((m:Int)<=(120:Int))=false:=by simp;omega
    go_wp2;go_ret;exact ⟨false,rfl,(fun h=>by cases h),HB2.out⟩
end Go.Proofs.YtdneicipdlofiaaGreatDoor

