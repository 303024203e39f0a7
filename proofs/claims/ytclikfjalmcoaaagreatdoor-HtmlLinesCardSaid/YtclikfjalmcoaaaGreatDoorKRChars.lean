/- Contracts of the code point readers of publisherref01 and of white space, over this seat's translation. The contract of publisherref01.at: the code point at a byte is the one that UTF-8 decoding gives. Contracts of publisherref01.Lower, in, Letter, bytes, Text. -/
import Derived.Test.YtclikfjalmcoaaaGreatDoorKRPlainR
set_option maxHeartbeats 4000000
set_option maxRecDepth 100000
open Go.Lib (hid)
namespace Go.Proofs.YtclikfjalmcoaaaGreatDoor
open Go.RowKit.Below renaming refl->jh1
open Nat renaming le_refl->jh2
open Go.RowKit
set_option linter.unusedVariables false
set_option linter.unusedSimpArgs false
theorem vP {k:IntKind} {a b:Int} (h:a=b):Ending.returned (.int k a)=.returned (.int k b):=by rw [h]
theorem OV (s:ByteArray) (i low high:Nat) (w:World) (hs:s.size<=9223372036854775807) (hl:low<256) (hh:high<256) (hi:i<9223372036854775807) : Calls Tryz.prog 211 #[.string s,.int .i64 i,.int .i64 low,.int .i64 high] w fun e w'=>e=.returned (.int .i64 (mG s i low high))/\w=w':=by
 obtain ⟨V,hV⟩:∃ V,V=mG s i low high:=⟨_,rfl⟩;rw [<- hV];unfold mG at hV;have HV:=hid hV;clear hV;have hb:=fB s i;by_cases h1:i<s.size
 ·have hw:wrap64 (s[i].toNat:Int)=(bt s i:Int):=by rw [jh s i h1];exact IntWalk.wrap64_in _ ⟨by omega,by omega⟩
  by_cases h2:low<=bt s i
  ·by_cases h3:bt s i<=high
   ·go_enter Tryz.func211,Tryz.ntmps211;go_wp2;go_ret;exact ⟨vP (by rw [HV.out,if_pos ⟨h1,h2,h3⟩]),rfl⟩
   ·go_enter Tryz.func211,Tryz.ntmps211;go_wp2;go_ret;exact ⟨vP (by rw [HV.out,if_neg (by omega)]),rfl⟩
  ·go_enter Tryz.func211,Tryz.ntmps211;go_wp2;go_ret;exact ⟨vP (by rw [HV.out,if_neg (by omega)]),rfl⟩
 ·go_enter Tryz.func211,Tryz.ntmps211;go_wp2;go_ret;exact ⟨vP (by rw [HV.out,if_neg (by omega)]),rfl⟩
theorem yB {a b c d:Int} (h1:a=c) (h2:b=d):Ending.returned (.agg #[.int .i64 a,.int .i64 b])=.returned (.agg #[.int .i64 c,.int .i64 d]):=by rw [h1,h2]
def WC (s:ByteArray) (i low high v:Int):Prop:=
 ∀ w:World,Calls Tryz.prog 211 #[.string s,.int .i64 i,.int .i64 low,.int .i64 high] w fun e w'=>e=.returned (.int .i64 v)/\w=w'
theorem oZ (s:ByteArray) (i low high:Nat) (j:Int) (hj:j=(i:Int)) (hs:s.size<=140737488355328) (hl:low<256) (hh:high<256) (hi:i<9223372036854775807):WC s j low high (mG s i low high):=by subst hj;exact fun w=>OV s i low high w (by omega) hl hh hi
theorem Lm (s:ByteArray) (i:Nat) (w:World) (hs:s.size<=140737488355328) (hi:i<s.size) (h1:224<=bt s i) (h2:bt s i<=239) : Calls Tryz.prog 212 #[.string s,.int .i64 i] w fun e w'=>e=.returned (.agg #[.int .i64 (Utf8.decode s i).1,.int .i64 (Utf8.decode s i).2])/\Below w.heap.size w w':=by
 obtain ⟨D1,D2⟩:=zW s i hi h1 h2;generalize hb:bt s i=b at *;have hw:wrap64 (s[i].toNat:Int)=(b:Int):=by rw [jh s i hi,hb];exact IntWalk.wrap64_in _ ⟨by omega,by omega⟩
 clear hb;have x1:=lH s (i+1) (iC b) (jq b) (by unfold iC;split<;>(try split)<;>omega);have y1:=lH s (i+2) 128 191 (by omega);have M1:=oZ s (i+1) (iC b) (jq b) (↑i+1) (by omega) hs (by unfold iC;split<;>(try split)<;>omega) (by unfold jq;split<;>(try split)<;>omega) (by omega);have M2:=oZ s (i+2) 128 191 (↑i+2) (by omega) hs (by omega) (by omega) (by omega);generalize mG s (i+1) (iC b) (jq b)=x at *;generalize mG s (i+2) 128 191=y at *;generalize Utf8.decode s i=d at *;obtain ⟨d1,d2⟩:=d;have k:(((b:Int)==224)=true/\((b:Int)==237)=false/\iC b=160/\jq b=191)\/(((b:Int)==224)=false/\((b:Int)==237)=true/\iC b=128/\jq b=159) \/
   (((b:Int)==224)=false/\((b:Int)==237)=false/\iC b=128/\jq b=191):=by
  unfold iC jq;by_cases k1:b=224
  ·left;subst k1;simp
  ·by_cases k2:b=237
   ·right;left;subst k2;simp
   ·right;right;refine ⟨by simp;omega,by simp;omega,?_,?_⟩<;>repeat (first | rw [if_neg (by omega)])
 have E1:=hid D1;have E2:=hid D2;clear D1 D2;rcases k with ⟨k1,k2,k3,k4⟩ | ⟨k1,k2,k3,k4⟩ | ⟨k1,k2,k3,k4⟩
 all_goals
  rw [k3,k4] at M1;clear k3 k4;go_enter Tryz.func212,Tryz.ntmps212;go_wp2_with fail
  refine (M1 _).mono ?_;rintro e w' ⟨rfl,rfl⟩;go_wp2_with fail
  refine (M2 _).mono ?_;rintro e w' ⟨rfl,rfl⟩;by_cases hx:x<0
  ·go_wp2;refine bodyPost_ret (v:=.agg #[.int .i64 65533,.int .i64 1]) (by simp [results,Tryz.results212,go_sem]) rfl ⟨?_,(jh1 _ _).alloc (jh2 _) _⟩;obtain ⟨rfl,rfl⟩:=Prod.mk.inj (E1.out (.inl hx));rfl
  ·by_cases hy:y<0
   ·go_wp2;refine bodyPost_ret (v:=.agg #[.int .i64 65533,.int .i64 1]) (by simp [results,Tryz.results212,go_sem]) rfl ⟨?_,(jh1 _ _).alloc (jh2 _) _⟩;obtain ⟨rfl,rfl⟩:=Prod.mk.inj (E1.out (.inr hy));rfl
   ·go_wp2;refine bodyPost_ret (v:=.agg #[.int .i64 ((b-224)*4096+x*64+y),.int .i64 3]) (by simp [results,Tryz.results212,go_sem]) rfl ⟨?_,(jh1 _ _).alloc (jh2 _) _⟩;obtain ⟨r1,r2⟩:=E2.out (by omega) (by omega);exact yB r1 (by simp only [r2];rfl)
theorem OX (s:ByteArray) (i:Nat) (w:World) (hs:s.size<=140737488355328) (hi:i<s.size) (h1:240<=bt s i) (h2:bt s i<=244) : Calls Tryz.prog 213 #[.string s,.int .i64 i] w fun e w'=>e=.returned (.agg #[.int .i64 (Utf8.decode s i).1,.int .i64 (Utf8.decode s i).2])/\Below w.heap.size w w':=by
 obtain ⟨D1,D2⟩:=D6 s i hi h1 h2;generalize hb:bt s i=b at *;have hw:wrap64 (s[i].toNat:Int)=(b:Int):=by rw [jh s i hi,hb];exact IntWalk.wrap64_in _ ⟨by omega,by omega⟩
 clear hb;have x1:=lH s (i+1) (iC b) (jq b) (by unfold iC;split<;>(try split)<;>omega);have y1:=lH s (i+2) 128 191 (by omega);have z1:=lH s (i+3) 128 191 (by omega);have M1:=oZ s (i+1) (iC b) (jq b) (↑i+1) (by omega) hs (by unfold iC;split<;>(try split)<;>omega) (by unfold jq;split<;>(try split)<;>omega) (by omega);have M2:=oZ s (i+2) 128 191 (↑i+2) (by omega) hs (by omega) (by omega) (by omega);have M3:=oZ s (i+3) 128 191 (↑i+3) (by omega) hs (by omega) (by omega) (by omega);generalize mG s (i+1) (iC b) (jq b)=x at *;generalize mG s (i+2) 128 191=y at *;generalize mG s (i+3) 128 191=z at *;generalize Utf8.decode s i=d at *;obtain ⟨d1,d2⟩:=d;have k:(((b:Int)==240)=true/\((b:Int)==244)=false/\iC b=144/\jq b=191)\/(((b:Int)==240)=false/\((b:Int)==244)=true/\iC b=128/\jq b=143) \/
   (((b:Int)==240)=false/\((b:Int)==244)=false/\iC b=128/\jq b=191):=by
  unfold iC jq;by_cases k1:b=240
  ·left;subst k1;simp
  ·by_cases k2:b=244
   ·right;left;subst k2;simp
   ·right;right;refine ⟨by simp;omega,by simp;omega,?_,?_⟩<;>repeat (first | rw [if_neg (by omega)])
 have E1:=hid D1;have E2:=hid D2;clear D1 D2;rcases k with ⟨k1,k2,k3,k4⟩ | ⟨k1,k2,k3,k4⟩ | ⟨k1,k2,k3,k4⟩
 all_goals
  rw [k3,k4] at M1;clear k3 k4;go_enter Tryz.func213,Tryz.ntmps213;go_wp2_with fail
  refine (M1 _).mono ?_;rintro e w' ⟨rfl,rfl⟩;go_wp2_with fail
  refine (M2 _).mono ?_;rintro e w' ⟨rfl,rfl⟩;go_wp2_with fail
  refine (M3 _).mono ?_;rintro e w' ⟨rfl,rfl⟩;by_cases hn:x<0\/y<0\/z<0
  ·obtain ⟨rfl,rfl⟩:=Prod.mk.inj (E1.out hn);by_cases hx:x<0
   ·go_wp2;exact bodyPost_ret (v:=.agg #[.int .i64 65533,.int .i64 1]) (by simp [results,Tryz.results213,go_sem]) rfl ⟨rfl,(jh1 _ _).alloc (jh2 _) _⟩
   ·by_cases hy:y<0
    ·go_wp2;exact bodyPost_ret (v:=.agg #[.int .i64 65533,.int .i64 1]) (by simp [results,Tryz.results213,go_sem]) rfl ⟨rfl,(jh1 _ _).alloc (jh2 _) _⟩
    ·have hz:z<0:=by omega
     go_wp2;exact bodyPost_ret (v:=.agg #[.int .i64 65533,.int .i64 1]) (by simp [results,Tryz.results213,go_sem]) rfl ⟨rfl,(jh1 _ _).alloc (jh2 _) _⟩
  ·have hx:0<=x:=by omega
   have hy:0<=y:=by omega
   have hz:0<=z:=by omega
   clear hn;go_wp2;refine bodyPost_ret (v:=.agg #[.int .i64 ((b-240)*262144+x*4096+y*64+z),.int .i64 4]) (by simp [results,Tryz.results213,go_sem]) rfl ⟨?_,(jh1 _ _).alloc (jh2 _) _⟩;obtain ⟨r1,r2⟩:=E2.out hx hy hz;exact yB r1 (by simp only [r2];rfl)
open Go.RowKit
def WG (f:Nat) (s:ByteArray) (i:Int) (d1 d2:Int):Prop:=
 ∀ w:World,Calls Tryz.prog f #[.string s,.int .i64 i] w fun e w'=>e=.returned (.agg #[.int .i64 d1,.int .i64 d2])/\Below w.heap.size w w'
theorem OY {W w1:World} (hb:Below W.heap.size W w1):(∀ b o,b<W.heap.size->w1.cell? ⟨b,o,none⟩=W.cell? ⟨b,o,none⟩)/\(∀ b o,b<W.heap.size->w1.frozen? ⟨b,o,none⟩=W.frozen? ⟨b,o,none⟩):=
 ⟨fun b o h=>hb.cell (p:=⟨b,o,none⟩) h,fun b o h=>hb.frozen (p:=⟨b,o,none⟩) h⟩
theorem OZ (s:ByteArray) (i:Nat) (hs:s.size<=140737488355328) (hi:i<s.size) : WG 170 s i (Utf8.decode s i).1 (Utf8.decode s i).2:=by
 intro w;have hbl:=fB s i;have hw:wrap64 (s[i].toNat:Int)=(bt s i:Int):=by rw [jh s i hi];exact IntWalk.wrap64_in _ ⟨by omega,by omega⟩
 by_cases c1:bt s i<128
 ·rw [vw s i c1];go_enter Tryz.func170,Tryz.ntmps170;go_wp2;exact bodyPost_ret (v:=.agg #[.int .i64 (bt s i),.int .i64 1]) (by simp [results,Tryz.results170,go_sem]) rfl ⟨rfl,(jh1 _ _).alloc (jh2 _) _⟩
 by_cases c2:bt s i<194
 ·rw [vB s i (by omega) (.inl c2)];go_enter Tryz.func170,Tryz.ntmps170;go_wp2;exact bodyPost_ret (v:=.agg #[.int .i64 65533,.int .i64 1]) (by simp [results,Tryz.results170,go_sem]) rfl ⟨rfl,(jh1 _ _).alloc (jh2 _) _⟩
 by_cases c3:bt s i<=223
 ·obtain ⟨D1,D2⟩:=vv s i hi (by omega) c3;have x1:=lH s (i+1) 128 191 (by omega);have M1:=oZ s (i+1) 128 191 (↑i+1) (by omega) hs (by omega) (by omega) (by omega);generalize mG s (i+1) 128 191=x at *;generalize Utf8.decode s i=d at *;obtain ⟨d1,d2⟩:=d;have E1:=hid D1;have E2:=hid D2;clear D1 D2;go_enter Tryz.func170,Tryz.ntmps170;go_wp2_with fail
  refine (M1 _).mono ?_;rintro e w' ⟨rfl,rfl⟩;by_cases hx:x<0
  ·obtain ⟨rfl,rfl⟩:=Prod.mk.inj (E1.out hx);go_wp2;exact bodyPost_ret (v:=.agg #[.int .i64 65533,.int .i64 1]) (by simp [results,Tryz.results170,go_sem]) rfl ⟨rfl,(jh1 _ _).alloc (jh2 _) _⟩
  ·go_wp2;refine bodyPost_ret (v:=.agg #[.int .i64 ((bt s i-192)*64+x),.int .i64 2]) (by simp [results,Tryz.results170,go_sem]) rfl ⟨?_,(jh1 _ _).alloc (jh2 _) _⟩;obtain ⟨r1,r2⟩:=E2.out (by omega);exact yB r1 (by simp only [r2];rfl)
 by_cases c4:bt s i<=239
 ·have T:=(Lm s i · hs hi (by omega) c4);generalize Utf8.decode s i=d at *;obtain ⟨d1,d2⟩:=d;have T:=hid T;go_enter Tryz.func170,Tryz.ntmps170;go_wp2_with fail
  refine (T.out _).mono ?_;rintro e w' ⟨rfl,hb⟩;obtain ⟨hc,hf⟩:=OY hb;go_wp2;refine bodyPost_ret (v:=.agg #[.int .i64 d1,.int .i64 d2]) (by simp [results,Tryz.results170,go_sem,hc]) rfl ⟨rfl,?_⟩;exact ((((jh1 _ _).alloc (jh2 _) _).trans (hb.mono (by simp))).setCell (by simp) _).setCell (by simp) _
 by_cases c5:bt s i<=244
 ·have T:=(OX s i · hs hi (by omega) c5);generalize Utf8.decode s i=d at *;obtain ⟨d1,d2⟩:=d;have T:=hid T;go_enter Tryz.func170,Tryz.ntmps170;go_wp2_with fail
  refine (T.out _).mono ?_;rintro e w' ⟨rfl,hb⟩;obtain ⟨hc,hf⟩:=OY hb;go_wp2;refine bodyPost_ret (v:=.agg #[.int .i64 d1,.int .i64 d2]) (by simp [results,Tryz.results170,go_sem,hc]) rfl ⟨rfl,?_⟩;exact ((((jh1 _ _).alloc (jh2 _) _).trans (hb.mono (by simp))).setCell (by simp) _).setCell (by simp) _
 rw [vB s i (by omega) (.inr (by omega))];go_enter Tryz.func170,Tryz.ntmps170;go_wp2;exact bodyPost_ret (v:=.agg #[.int .i64 65533,.int .i64 1]) (by simp [results,Tryz.results170,go_sem]) rfl ⟨rfl,(jh1 _ _).alloc (jh2 _) _⟩
open Go.RowKit
theorem IJ (c:Nat) (w:World) (hc:c<=1114111) : Calls Tryz.prog 262 #[.int .i64 (c:Int)] w fun e w'=>e=.returned (.int .i64 (fG c:Nat))/\w=w':=by
 go_enter Tryz.func262,Tryz.ntmps262;go_wp2;all_goals
  go_ret;refine ⟨gD ?_,rfl⟩;unfold fG
  (try simp only [bne_iff_ne,bne_eq_false_iff_eq,ne_eq] at *)
  (repeat' split)<;>omega
theorem IQ (c:Nat) (w:World) (hc:c<=1114111) : Calls Tryz.prog 261 #[.int .i64 (c:Int)] w fun e w'=>e=.returned (.bool (Qg c))/\w=w':=by
 go_enter Tryz.func261,Tryz.ntmps261;go_wp2;all_goals
  go_ret;refine ⟨uQ ?_,rfl⟩;unfold Qg
  (try simp only [beq_iff_eq,beq_eq_false_iff_ne,ne_eq] at *)
  rw [Bool.eq_iff_iff];simp;omega
def yD (c:Nat) (rs:List (Nat × Nat)):Bool:=rs.any fun r=>lT c r.1 r.2
theorem Lr (c:Nat) (rs:List (Nat × Nat)) (k:Nat) (r:Nat × Nat) (h:rs[k]?=some r):yD c (rs.take (k+1))=(yD c (rs.take k)||lT c r.1 r.2):=by unfold yD;rw [List.take_add_one,h];simp
theorem Lu (c:Nat) (rs:List (Nat × Nat)) (k:Nat) (h:yD c (rs.take k)=true):yD c rs=true:=by unfold yD at *;rw [List.any_eq_true] at *;obtain ⟨x,hx,h⟩:=h;exact ⟨x,List.mem_of_mem_take hx,h⟩
def ZE (w wr:World) (c:Nat) (rs:List (Nat × Nat)) (vi:Value):Prop:=
 ∃ k:Nat,k<=rs.length/\vi=.int .i64 k/\yD c (rs.take k)=false/\Below w.heap.size w wr
theorem Sc (c:Nat) (rs:List (Nat × Nat)) (b cap:Nat) (w:World) (hc:c<=1114111) (hn:rs.length<=1000) (hcell:∀ i r,rs[i]?=some r->w.cell? ⟨b,i*2,none⟩=some (.int .i64 r.1)/\w.cell? ⟨b,i*2+1,none⟩=some (.int .i64 r.2)) : Calls Tryz.prog 264 #[.int .i64 (c:Int),.slice (some ⟨b,0,none⟩) rs.length cap] w fun e w'=>e=.returned (.bool (yD c rs))/\Below w.heap.size w w':=by
 have HC:=hid hcell;have HZ:Hid (yD c (rs.take 0)=false):=rfl;clear hcell;go_enter Tryz.func264,Tryz.ntmps264;go_wp2
 go_loopw [9] (fun vi wr=>ZE w wr c rs vi) (fun i _=>rs.length-(intOf i).toNat)
 case atStart=>exact ⟨0,Nat.zero_le _,rfl,HZ.out,jh1 _ _⟩
 case round=>
  obtain ⟨k,hk,rfl,hany,hbel⟩:=hrel;have HA:=hid hany;clear hany;by_cases hlt:k<rs.length
  ·obtain ⟨r,hr⟩:∃ r,rs[k]?=some r:=⟨_,List.getElem?_eq_getElem hlt⟩;obtain ⟨k1,k2⟩:=HC.out k r hr;have hbl:b<w.heap.size:=mJ k1;have c1:wr.cell? ⟨b,k*2,none⟩=some (.int .i64 r.1):=by rw [hbel.cell (p:=⟨b,k*2,none⟩) hbl];exact k1
   have c2:wr.cell? ⟨b,k*2+1,none⟩=some (.int .i64 r.2):=by rw [hbel.cell (p:=⟨b,k*2+1,none⟩) hbl];exact k2
   have hsn:=Lr c rs k r hr;rw [HA.out] at hsn;have iE:=hid hsn;have HT:=hid (Lu c rs (k+1));obtain ⟨r1,r2⟩:=r;clear hr k1 k2 hsn;go_wp2_with fail
   ·go_ret;exact ⟨by rw [HT.out (by rw [iE.out];simp [lT];omega)];rfl,hbel.alloc hbel.size _⟩
   all_goals
    exact ⟨⟨k+1,by omega,by go_num,by rw [iE.out];simp [lT];omega,hbel.alloc hbel.size _⟩,by simp [intOf];omega⟩
  ·have hkl:k=rs.length:=by omega
   have hA:=HA.out;rw [hkl,List.take_length] at hA;have HA2:=hid hA;clear hA HA hkl;go_wp2;go_ret;exact ⟨by rw [HA2.out];rfl,hbel⟩
def rgCells (rs:List (Nat × Nat)):List Value:=(rs.map fun r=>[Value.int .i64 (r.1:Int),Value.int .i64 (r.2:Int)]).flatten
theorem O5 (w:World) (T:TypeId) (rs:List (Nat × Nat)):∀ i r,rs[i]?=some r->(w.alloc (.cells (rgCells rs).toArray T)).cell? ⟨w.heap.size,i*2,none⟩=some (.int .i64 r.1)/\(w.alloc (.cells (rgCells rs).toArray T)).cell? ⟨w.heap.size,i*2+1,none⟩=some (.int .i64 r.2):=by
 intro i r h;have hr:(rs.map fun r=>[Value.int .i64 (r.1:Int),Value.int .i64 (r.2:Int)])[i]?=some [.int .i64 r.1,.int .i64 r.2]:=by simp [h]
 have hl:∀ x∈(rs.map fun r=>[Value.int .i64 (r.1:Int),Value.int .i64 (r.2:Int)]),x.length=2:=by intro x hx;obtain ⟨y,_,rfl⟩:=List.mem_map.1 hx;rfl
 have h0:=OT 2 _ hl i 0 _ (.int .i64 r.1) hr rfl;have h1:=OT 2 _ hl i 1 _ (.int .i64 r.2) hr rfl;have e:∀ j,((⟨w.heap.size,0,none⟩:Addr).add j)=⟨w.heap.size,j,none⟩:=fun j=>by unfold Addr.add;split<;>simp_all
 have g0:=GN w (rgCells rs) T _ _ h0;have g1:=GN w (rgCells rs) T _ _ h1;rw [e] at g0 g1;exact ⟨g0,g1⟩
def FE:List (Nat × Nat):=[(65,90),(97,122),(170,170),(181,181),(186,186),(192,214),(216,246),(248,687),(880,1327),(4256,4351),(7680,8191),(12353,12538),(19968,40959),(44032,55203)]
theorem Lv (c:Nat):yD c FE=iD c:=by simp [yD,FE,iD,Bool.or_assoc]
theorem FH (c:Nat) (w:World) (hc:c<=1114111) : Calls Tryz.prog 235 #[.int .i64 (c:Int)] w fun e w'=>e=.returned (.bool (iD c))/\Below w.heap.size w w':=by
 have RI:=hid (fun T=>Sc c FE w.heap.size 14 (w.alloc (.cells (rgCells FE).toArray T)) hc (by decide) (O5 w T FE));rw [<- Lv c];go_enter Tryz.func235,Tryz.ntmps235;go_wp2_with fail
 refine (RI.out _).mono ?_;rintro e w1 ⟨rfl,hb1⟩;go_wp2;go_ret;exact ⟨rfl,((jh1 _ w).alloc (jh2 _) _).trans (hb1.mono (by simp))⟩
def O6 (w:World) (bs:List Value) (e:Ending) (w':World):Prop:=∃ g cap,e=.returned (.slice (some ⟨g,0,none⟩) bs.length cap)/\bs.length<=cap/\w.heap.size<=g/\(∀ j u,bs[j]?=some u->w'.cell? ((⟨g,0,none⟩:Addr).add j)=some u)/\Below w.heap.size w w'
theorem Bn (c:Nat) (w:World) (hc:c<=1114111) (hs:c<55296\/57343<c) : Calls Tryz.prog 285 #[.int .i64 (c:Int)] w (O6 w (Lib.runeCells (c:Int))):=by
 have fin:∀ (bs:List Value) (n:Nat),bs.length=n->O6 w bs (.returned (.slice (some ⟨w.heap.size,0,none⟩) n n)) (w.alloc (.cells bs.toArray 5)):=by rintro bs n rfl;exact ⟨w.heap.size,bs.length,rfl,jh2 _,jh2 _,GN w bs _,(jh1 _ w).alloc (jh2 _) _⟩
 have HF:=hid fin;clear fin;by_cases h1:c<128
 ·have e:Lib.runeCells (c:Int)=[.int .u8 (c:Int)]:=by unfold Lib.runeCells;rw [Lib.encodeRuneZ_one (by omega) (by omega)];rfl
  rw [e];clear e;go_enter Tryz.func285,Tryz.ntmps285;go_wp2_with fail
  go_ret;exact HF.out _ 1 rfl
 by_cases h2:c<2048
 ·have e:Lib.runeCells (c:Int)=[.int .u8 (192+(c:Int)/64),.int .u8 (128+(c:Int)%64)]:=by unfold Lib.runeCells;rw [Lib.encodeRuneZ_two (by omega) (by omega)];rfl
  rw [e];clear e;go_enter Tryz.func285,Tryz.ntmps285;go_wp2_with fail
  go_ret;exact HF.out _ 2 rfl
 by_cases h3:c<65536
 ·have e:Lib.runeCells (c:Int)=[.int .u8 (224+(c:Int)/4096),.int .u8 (128+(c:Int)/64%64),.int .u8 (128+(c:Int)%64)]:=by unfold Lib.runeCells;rw [Lib.encodeRuneZ_three (by omega)];rfl
  rw [e];clear e;rcases hs with hs | hs
  ·have e0:decide ((c:Int)<65536)=true:=by simp;omega
   have e1:decide ((c:Int)<0)=false:=by simp
   have e2:decide ((1114111:Int)<(c:Int))=false:=by simp;omega
   have e3:decide ((55296:Int)<=(c:Int))=false:=by simp;omega
   have e5:decide ((c:Int)<128)=false:=by simp;omega
   have e6:decide ((c:Int)<2048)=false:=by simp;omega
   clear hs;go_enter Tryz.func285,Tryz.ntmps285;go_wp2_with fail
   go_ret;exact HF.out _ 3 rfl
  ·have e0:decide ((c:Int)<65536)=true:=by simp;omega
   have e1:decide ((c:Int)<0)=false:=by simp
   have e2:decide ((1114111:Int)<(c:Int))=false:=by simp;omega
   have e3:decide ((55296:Int)<=(c:Int))=true:=by simp;omega
   have e4:decide ((c:Int)<=57343)=false:=by simp;omega
   have e5:decide ((c:Int)<128)=false:=by simp;omega
   have e6:decide ((c:Int)<2048)=false:=by simp;omega
   clear hs;go_enter Tryz.func285,Tryz.ntmps285;go_wp2_with fail
   go_ret;exact HF.out _ 3 rfl
 ·have e:Lib.runeCells (c:Int)=[.int .u8 (240+(c:Int)/262144),.int .u8 (128+(c:Int)/4096%64),.int .u8 (128+(c:Int)/64%64),.int .u8 (128+(c:Int)%64)]:=by unfold Lib.runeCells;rw [Lib.encodeRuneZ_four (by omega) (by omega)];rfl
  rw [e];clear e;have e0:decide ((c:Int)<65536)=false:=by simp;omega
  have e1:decide ((c:Int)<0)=false:=by simp
  have e2:decide ((1114111:Int)<(c:Int))=false:=by simp;omega
  have e3:decide ((55296:Int)<=(c:Int))=true:=by simp;omega
  have e4:decide ((c:Int)<=57343)=false:=by simp;omega
  have e5:decide ((c:Int)<128)=false:=by simp;omega
  have e6:decide ((c:Int)<2048)=false:=by simp;omega
  clear hs;go_enter Tryz.func285,Tryz.ntmps285;go_wp2_with fail
  go_ret;exact HF.out _ 4 rfl
theorem IU (c:Nat) (w:World) (hc:c<=1114111) : Calls Tryz.prog 285 #[.int .i64 (c:Int)] w (O6 w (Lib.runeCells (c:Int))):=by
 by_cases hs:c<55296\/57343<c
 ·exact Bn c w hc hs
 ·have e:Lib.runeCells (c:Int)=Lib.runeCells ((65533:Nat):Int):=by
   unfold Lib.runeCells Lib.encodeRuneZ;rw [if_neg (by omega),if_neg (by omega),if_neg (by omega),if_neg (by omega)];rfl
  rw [e];have RB:=hid (fun w=>Bn 65533 w (by omega) (by omega));clear e;go_enter Tryz.func285,Tryz.ntmps285;go_wp2_with fail
  refine (RB.out _).mono ?_;rintro e w1 ⟨g,cap,rfl,h1,h2,h3,h4⟩;go_wp2;go_ret;exact ⟨g,cap,rfl,h1,h2,h3,h4⟩
end Go.Proofs.YtclikfjalmcoaaaGreatDoor

