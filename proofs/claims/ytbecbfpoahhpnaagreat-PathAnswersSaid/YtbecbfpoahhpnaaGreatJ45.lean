/- Between which numbers lies what a node makes (layer 32): the document's Node. -/
import Derived.Test.YtbecbfpoahhpnaaGreatJ28
import Derived.Test.YtbecbfpoahhpnaaGreatJ27
set_option linter.unusedVariables false
set_option linter.unusedSimpArgs false
set_option maxRecDepth 100000
set_option maxHeartbeats 16000000
namespace Go.Proofs.YtbecbfpoahhpnaaGreat
open Go.RowKit Go.ChangeShapes Go.WideShapes Tryz
theorem vJ {k:Int} (h:bk k=true):k=1 ∨ k=2 ∨ k=3:=by unfold bk at h;simpa using h
theorem qo (d:af) (W:QA) (nw cw:Nat) (B:QA) (nb cb:Nat) (O N U T:Int) (w:World) (hw:xA w W nw cw d.w) (i:xB w B nb cb d.bias) (hd:aQ d)
  (ac:InK .i8 O) (ad:InK .i8 N) (bt:InK .i8 U) (be:InK .i8 T) (mw:nw≤16384) (mb:nb≤16384) (bs:bk d.kind=true → 1≤nw) :
  Calls prog 92 #[.agg (nD d W nw cw B nb cb),.agg #[.int .i8 O,.int .i8 N],.agg #[.int .i8 U,.int .i8 T]] w (sS (eM d (O,N) (U,T)) w):=by
 obtain ⟨CK,J1,J2,MY,A1,A2,AF,SH⟩:=zh8 (fun w hw i=>pt d W nw cw B nb cb w hw i oM oM) (fun hm w=>me O U d W nw cw B nb cb w ac bt hd hm) (fun hm w=>me N T d W nw cw B nb cb w ad be hd hm) (qL (d:=d)) (fun w=>nk O d W nw cw B nb cb w ac hd) (fun w=>nk N d W nw cw B nb cb w ad hd) (fun a b w=>qC a b d.qm d.qs d.qz d.lo d.hi w hd.qm hd.qz hd.lo hd.hi) (fun w=>ns W nw cw B nb cb w mL mL);obtain ⟨RR,BD⟩:=zh2 (fun w hw i h1 h0 hr=>rf W nw cw d.w B nb cb d.bias O N d.za (decide (0 < d.p)) w hw i hd.za ac ad mw mb h1 h0 hr) (fun h=>nL (w:=d.w) (bias:=d.bias) (lo:=O) (hi:=N) (z:=d.za) (gaps:=decide (0 < d.p)) h);rw [i.n_eq,hw.n_eq] at BD;obtain ⟨HB,HW,H1⟩:=zh3 (Old.now i) (Old.now hw) bs;have m:=zW w;obtain ⟨r,hr⟩:∃ r,eM d (O,N) (U,T)=r:=⟨_,rfl⟩;rw [hr];unfold eM at hr;obtain ⟨ck,ba⟩:∃ c,bu d=c:=⟨_,rfl⟩;rw [ba] at CK hr MY;have x:=zH hr.symm;try simp only at x
 clear hw i hd ac ad bt be bs hr ba;obtain ⟨w1,w2,w3,w4,bw,bp,bb,bg,l1,l2,l3,l4,f,k,j,v,br⟩:=bk4 w (nD d W nw cw B nb cb) 84 #[.int .i8 O,.int .i8 N] 167 #[.int .i8 U,.int .i8 T] 167 #[.int .i8 0,.int .i8 0] 167;replace m:=zF br m;clear br;go_in
 go_wp2_with (refine lG f.o ?_)
 clear bw bp bb bg;refine qM (CK.o _ (HW.o.fut m.u).all (HB.o.fut m.u).all) fun w5 i=>?_;obtain ⟨m,f,k,j,v⟩:=uz5 i m f k j v;clear i;by_cases c1:ck=0;rotate_left
 ·have t1:(ck != 0)=true:=by simpa using c1
  rw [if_pos c1] at x;clear c1
  go_wp2_with (refine sG #[.int .i8 0,.int .i8 0] v.o ?_;intro S E F)
  refine rG E ?_;exact ⟨by rw [x.o] <;> rfl,(m.o.away F oM).out⟩
 subst c1;have t1:((0:Int) != 0)=false:=rfl;rw [if_neg dM] at x;obtain ⟨k0,C,A,D,n,s,l,t⟩:=uc8 f 0 5 7 9 10 13 17 18;obtain ⟨H,I⟩:=uc2 k 0 1;obtain ⟨J,M⟩:=uc2 j 0 1;simp only [gX] at k0 C A D n s l t;by_cases Y:N < O
 ·have t2:decide (N < O)=true:=by simpa using Y
  rw [if_pos (.inl Y)] at x;clear Y
  go_upto_region 5 with fail
  clear k0 C A D n s l t H I J M
  go_wp2_with (refine sG #[.int .i8 0,.int .i8 0] v.o ?_;intro S E F)
  refine rG E ?_;exact ⟨by rw [x.o] <;> rfl,(m.o.away F oM).out⟩
 have t2:decide (N < O)=false:=by simpa using Y
 have ge:=Int.not_lt.1 Y;by_cases Z:d.kind=6
 ·have t6:(d.kind == 6)=true:=by simp [Z]
  have s1:(d.kind == 1)=false:=by simp [Z]
  have s2:(d.kind == 2)=false:=by simp [Z]
  have s3:(d.kind == 3)=false:=by simp [Z]
  by_cases c3:T < U
  ·have t3:decide (T < U)=true:=by simpa using c3
   rw [if_pos (.inr ⟨Z,c3⟩)] at x;clear Y c3 ge Z
   go_upto_region 5 with fail
   clear k0 C A D n s l t H I J M
   go_wp2_with (refine sG #[.int .i8 0,.int .i8 0] v.o ?_;intro S E F)
   refine rG E ?_;exact ⟨by rw [x.o] <;> rfl,(m.o.away F oM).out⟩
  have t3:decide (T < U)=false:=by simpa using c3
  have MM:=zH (MY.o rfl Z);have sk:bk d.kind=false:=by rw [Z];rfl
  rw [if_neg (show ¬ (N < O ∨ (d.kind=6∧T < U)) by omega)] at x;rw [sk,if_neg dM,if_pos Z] at x;replace J1:=zH (J1.o MM.o);replace J2:=zH (J2.o MM.o);obtain ⟨V,P⟩:∃ y,dK d O U=y:=⟨_,rfl⟩;obtain ⟨X,Q⟩:∃ y,dK d N T=y:=⟨_,rfl⟩;rw [P] at J1 x;rw [Q] at J2 x;clear Y c3 ge P Q sk Z;go_wp2_with fail;clear k0 C A D n s l t H I J M;refine aP (fun w'=>w'.cell? ⟨w1.heap.size,0,none⟩=some (.int .i8 O)∧w'.cell? ⟨w2.heap.size,0,none⟩=some (.int .i8 U)∧w'.cell? ⟨w1.heap.size,1,none⟩=some (.int .i8 N)∧w'.cell? ⟨w2.heap.size,1,none⟩=some (.int .i8 T)∧Blk w' w.heap.size 84 (nD d W nw cw B nb cb)∧Below w5 w5 w') 13 kM ?_ (fun G=>?_)
  ·exact ⟨k.o.drew.cell 0,j.o.drew.cell 0,k.o.drew.cell 1,j.o.drew.cell 1,f.o.drew,(qB _ _).drew⟩
  refine kT' 0 G ?_;refine kT' 1 G ?_;refine kT' 2 G ?_;refine kT' 3 G ?_;refine tkT 4 rfl (yB 84 (.tmp 3) w (fun w hs=>hs.2.2.2.2.1) underlying84) G ?_;try simp only [pX]
  refine kT' 6 G ?_;refine kT' 7 G ?_;refine kT' 8 G ?_;refine kT' 9 G ?_;refine tkT 10 rfl (yB 84 (.tmp 3) w (fun w hs=>hs.2.2.2.2.1) underlying84) G ?_;try simp only [pX]
  refine rT 5 (fun K hK=>?_);go_simp
  with_reducible refine (J1.o _).mono ?_;rintro e wm ⟨rfl,i⟩
  refine xK hK (zR i G) fun G=>?_;clear hK K;refine rT 11 (fun K hK=>?_);go_simp
  with_reducible refine (J2.o _).mono ?_;rintro e wm ⟨rfl,i⟩
  refine xK hK (zR i G) fun G=>?_;clear hK K;refine kT' 12 G ?_;refine wpAnyT_tail _ _ rfl rfl kM ?_;have kd:=G.2.2.2.2.2;obtain ⟨m,v⟩:=uz2 kd m v;clear G kd i
  go_wp2_with (refine sG #[.int .i8 V,.int .i8 X] v.o ?_;intro S E F)
  refine rG E ?_;exact ⟨by rw [x.o] <;> rfl,(m.o.away F oM).out⟩
 have t6:(d.kind == 6)=false:=by simp [Z]
 rw [if_neg (show ¬ (N < O ∨ (d.kind=6∧T < U)) by omega)] at x;obtain ⟨sk,R⟩:∃ b,bk d.kind=b:=⟨_,rfl⟩;have KC:=zH (fun h:sk=true=>vJ (R.trans h));rw [R] at x H1;cases sk with
 | true =>
  rw [if_pos rfl] at x;try simp only at x
  have h1:=H1.o rfl;have an:=KC.o rfl;unfold jl at x;obtain ⟨L,hL⟩:∃ L,eU d.w d.bias O N d.za (decide (0 < d.p))=L:=⟨_,rfl⟩;rw [hL] at x RR BD;obtain ⟨g,hg⟩:∃ g,decide (0 < d.p)=g:=⟨_,rfl⟩;rw [hg] at RR;by_cases ay:nb=0 ∨ ¬ nw % nb=0
  ·have SV:=zH (show (decide (0 < nb) && decide (nw % nb=0))=false by rcases ay with h|h;rw [h];rfl;rw [dF h,Bool.and_false]);obtain rfl:=BD.o ay;rw [SV.o] at SH;have AQ:=zH (AF.o 0 0);rw [show dc []=true from rfl,if_pos rfl,show ey []=(0,0) from rfl] at x;obtain ⟨⟨V,X⟩,hy⟩:∃ y,d8 (0,0) d.qm d.qs d.qz d.lo d.hi=y:=⟨_,rfl⟩;rw [hy] at AQ x;clear hy hL ay Y ge AF RR BD hg R;rcases an with h|h|h
   ·have s1:(d.kind == 1)=true:=by rw [h];rfl
    have s2:(d.kind == 2)=false:=by rw [h];rfl
    have s3:(d.kind == 3)=false:=by rw [h];rfl
    clear h
    go_wp2_with (first|(go_at_call 93;refine qM (SH.o _) fun w6 i=>?_;obtain ⟨m,f,k,j,v⟩:=uz5 i m f k j v;clear i;clear k0 C A D n s l t H I J M;obtain ⟨k0,C,A,D,n,s,l,t⟩:=uc8 f 0 5 7 9 10 13 17 18;obtain ⟨H,I⟩:=uc2 k 0 1;obtain ⟨J,M⟩:=uc2 j 0 1;simp only [gX] at k0 C A D n s l t)|(refine wpList_load_mid rfl 82 (.tmp 80) rfl w.heap.size 11 rfl _ _ (aq (off:=11) (vs:=[.int .i32 d.qm,.int .i64 d.qs,.int .i8 d.qz]) f.o rfl) underlying82 rfl kM ?_)|(go_at_call 124;refine qM (AQ.o _) fun w7 i=>?_;obtain ⟨m,f,k,j,v⟩:=uz5 i m f k j v;clear i)|(refine sG #[.int .i8 V,.int .i8 X] v.o ?_;intro S E F))
    refine rG E ?_;exact ⟨by rw [x.o] <;> rfl,(m.o.away F oM).out⟩
   ·have s1:(d.kind == 1)=false:=by rw [h];rfl
    have s2:(d.kind == 2)=true:=by rw [h];rfl
    have s3:(d.kind == 3)=false:=by rw [h];rfl
    clear h
    go_wp2_with (first|(go_at_call 93;refine qM (SH.o _) fun w6 i=>?_;obtain ⟨m,f,k,j,v⟩:=uz5 i m f k j v;clear i;clear k0 C A D n s l t H I J M;obtain ⟨k0,C,A,D,n,s,l,t⟩:=uc8 f 0 5 7 9 10 13 17 18;obtain ⟨H,I⟩:=uc2 k 0 1;obtain ⟨J,M⟩:=uc2 j 0 1;simp only [gX] at k0 C A D n s l t)|(refine wpList_load_mid rfl 82 (.tmp 80) rfl w.heap.size 11 rfl _ _ (aq (off:=11) (vs:=[.int .i32 d.qm,.int .i64 d.qs,.int .i8 d.qz]) f.o rfl) underlying82 rfl kM ?_)|(go_at_call 124;refine qM (AQ.o _) fun w7 i=>?_;obtain ⟨m,f,k,j,v⟩:=uz5 i m f k j v;clear i)|(refine sG #[.int .i8 V,.int .i8 X] v.o ?_;intro S E F))
    refine rG E ?_;exact ⟨by rw [x.o] <;> rfl,(m.o.away F oM).out⟩
   ·have s1:(d.kind == 1)=false:=by rw [h];rfl
    have s2:(d.kind == 2)=false:=by rw [h];rfl
    have s3:(d.kind == 3)=true:=by rw [h];rfl
    clear h
    go_wp2_with (first|(go_at_call 93;refine qM (SH.o _) fun w6 i=>?_;obtain ⟨m,f,k,j,v⟩:=uz5 i m f k j v;clear i;clear k0 C A D n s l t H I J M;obtain ⟨k0,C,A,D,n,s,l,t⟩:=uc8 f 0 5 7 9 10 13 17 18;obtain ⟨H,I⟩:=uc2 k 0 1;obtain ⟨J,M⟩:=uc2 j 0 1;simp only [gX] at k0 C A D n s l t)|(refine wpList_load_mid rfl 82 (.tmp 80) rfl w.heap.size 11 rfl _ _ (aq (off:=11) (vs:=[.int .i32 d.qm,.int .i64 d.qs,.int .i8 d.qz]) f.o rfl) underlying82 rfl kM ?_)|(go_at_call 124;refine qM (AQ.o _) fun w7 i=>?_;obtain ⟨m,f,k,j,v⟩:=uz5 i m f k j v;clear i)|(refine sG #[.int .i8 V,.int .i8 X] v.o ?_;intro S E F))
    refine rG E ?_;exact ⟨by rw [x.o] <;> rfl,(m.o.away F oM).out⟩
  have ax:¬ nb=0∧nw % nb=0:=oM;have SV:=zH (show (decide (0 < nb) && decide (nw % nb=0))=true by rw [qT ax.2,qT oM];rfl);rw [SV.o] at SH;have RW:=zH (fun w hw i=>RR.o w hw i h1 ax.1 ax.2);obtain ⟨⟨p,q⟩,bn⟩:∃ y,ey L=y:=⟨_,rfl⟩;obtain ⟨ok,bo⟩:∃ y,dc L=y:=⟨_,rfl⟩;rw [bn,bo] at RW x;simp only at RW;have AQ:=zH (AF.o p q);obtain ⟨⟨V,X⟩,hy⟩:∃ y,d8 (p,q) d.qm d.qs d.qz d.lo d.hi=y:=⟨_,rfl⟩;rw [hy] at AQ x;clear hy hL ay Y ge AF RR BD R ax bn bo h1;cases ok with
  | false =>
   rw [if_neg dM] at x;rcases an with h|h|h
   ·have s1:(d.kind == 1)=true:=by rw [h];rfl
    have s2:(d.kind == 2)=false:=by rw [h];rfl
    have s3:(d.kind == 3)=false:=by rw [h];rfl
    clear h
    go_wp2_with (first|(go_at_call 93;refine qM (SH.o _) fun w6 i=>?_;obtain ⟨m,f,k,j,v⟩:=uz5 i m f k j v;clear i;clear k0 C A D n s l t H I J M;obtain ⟨k0,C,A,D,n,s,l,t⟩:=uc8 f 0 5 7 9 10 13 17 18;obtain ⟨H,I⟩:=uc2 k 0 1;obtain ⟨J,M⟩:=uc2 j 0 1;simp only [gX] at k0 C A D n s l t)|(go_at_call 94;refine qM (RW.o _ (HW.o.fut m.u).all (HB.o.fut m.u).all) fun w7 i=>?_;obtain ⟨m,f,k,j,v⟩:=uz5 i m f k j v;clear i)|(refine sG #[.int .i8 0,.int .i8 0] v.o ?_;intro S E F))
    refine rG E ?_;exact ⟨by rw [x.o] <;> rfl,(m.o.away F oM).out⟩
   ·have s1:(d.kind == 1)=false:=by rw [h];rfl
    have s2:(d.kind == 2)=true:=by rw [h];rfl
    have s3:(d.kind == 3)=false:=by rw [h];rfl
    clear h
    go_wp2_with (first|(go_at_call 93;refine qM (SH.o _) fun w6 i=>?_;obtain ⟨m,f,k,j,v⟩:=uz5 i m f k j v;clear i;clear k0 C A D n s l t H I J M;obtain ⟨k0,C,A,D,n,s,l,t⟩:=uc8 f 0 5 7 9 10 13 17 18;obtain ⟨H,I⟩:=uc2 k 0 1;obtain ⟨J,M⟩:=uc2 j 0 1;simp only [gX] at k0 C A D n s l t)|(go_at_call 94;refine qM (RW.o _ (HW.o.fut m.u).all (HB.o.fut m.u).all) fun w7 i=>?_;obtain ⟨m,f,k,j,v⟩:=uz5 i m f k j v;clear i)|(refine sG #[.int .i8 0,.int .i8 0] v.o ?_;intro S E F))
    refine rG E ?_;exact ⟨by rw [x.o] <;> rfl,(m.o.away F oM).out⟩
   ·have s1:(d.kind == 1)=false:=by rw [h];rfl
    have s2:(d.kind == 2)=false:=by rw [h];rfl
    have s3:(d.kind == 3)=true:=by rw [h];rfl
    clear h
    go_wp2_with (first|(go_at_call 93;refine qM (SH.o _) fun w6 i=>?_;obtain ⟨m,f,k,j,v⟩:=uz5 i m f k j v;clear i;clear k0 C A D n s l t H I J M;obtain ⟨k0,C,A,D,n,s,l,t⟩:=uc8 f 0 5 7 9 10 13 17 18;obtain ⟨H,I⟩:=uc2 k 0 1;obtain ⟨J,M⟩:=uc2 j 0 1;simp only [gX] at k0 C A D n s l t)|(go_at_call 94;refine qM (RW.o _ (HW.o.fut m.u).all (HB.o.fut m.u).all) fun w7 i=>?_;obtain ⟨m,f,k,j,v⟩:=uz5 i m f k j v;clear i)|(refine sG #[.int .i8 0,.int .i8 0] v.o ?_;intro S E F))
    refine rG E ?_;exact ⟨by rw [x.o] <;> rfl,(m.o.away F oM).out⟩
  | true =>
   rw [if_pos rfl] at x;rcases an with h|h|h
   ·have s1:(d.kind == 1)=true:=by rw [h];rfl
    have s2:(d.kind == 2)=false:=by rw [h];rfl
    have s3:(d.kind == 3)=false:=by rw [h];rfl
    clear h
    go_wp2_with (first|(go_at_call 93;refine qM (SH.o _) fun w6 i=>?_;obtain ⟨m,f,k,j,v⟩:=uz5 i m f k j v;clear i;clear k0 C A D n s l t H I J M;obtain ⟨k0,C,A,D,n,s,l,t⟩:=uc8 f 0 5 7 9 10 13 17 18;obtain ⟨H,I⟩:=uc2 k 0 1;obtain ⟨J,M⟩:=uc2 j 0 1;simp only [gX] at k0 C A D n s l t)|(go_at_call 94;refine qM (RW.o _ (HW.o.fut m.u).all (HB.o.fut m.u).all) fun w7 i=>?_;obtain ⟨m,f,k,j,v⟩:=uz5 i m f k j v;clear i;clear k0 C A D n s l t H I J M;obtain ⟨k0,C,A,D,n,s,l,t⟩:=uc8 f 0 5 7 9 10 13 17 18;obtain ⟨H,I⟩:=uc2 k 0 1;obtain ⟨J,M⟩:=uc2 j 0 1;simp only [gX] at k0 C A D n s l t)|(refine wpList_load_mid rfl 82 (.tmp 80) rfl w.heap.size 11 rfl _ _ (aq (off:=11) (vs:=[.int .i32 d.qm,.int .i64 d.qs,.int .i8 d.qz]) f.o rfl) underlying82 rfl kM ?_)|(go_at_call 124;refine qM (AQ.o _) fun w8 i=>?_;obtain ⟨m,f,k,j,v⟩:=uz5 i m f k j v;clear i)|(refine sG #[.int .i8 V,.int .i8 X] v.o ?_;intro S E F))
    refine rG E ?_;exact ⟨by rw [x.o] <;> rfl,(m.o.away F oM).out⟩
   ·have s1:(d.kind == 1)=false:=by rw [h];rfl
    have s2:(d.kind == 2)=true:=by rw [h];rfl
    have s3:(d.kind == 3)=false:=by rw [h];rfl
    clear h
    go_wp2_with (first|(go_at_call 93;refine qM (SH.o _) fun w6 i=>?_;obtain ⟨m,f,k,j,v⟩:=uz5 i m f k j v;clear i;clear k0 C A D n s l t H I J M;obtain ⟨k0,C,A,D,n,s,l,t⟩:=uc8 f 0 5 7 9 10 13 17 18;obtain ⟨H,I⟩:=uc2 k 0 1;obtain ⟨J,M⟩:=uc2 j 0 1;simp only [gX] at k0 C A D n s l t)|(go_at_call 94;refine qM (RW.o _ (HW.o.fut m.u).all (HB.o.fut m.u).all) fun w7 i=>?_;obtain ⟨m,f,k,j,v⟩:=uz5 i m f k j v;clear i;clear k0 C A D n s l t H I J M;obtain ⟨k0,C,A,D,n,s,l,t⟩:=uc8 f 0 5 7 9 10 13 17 18;obtain ⟨H,I⟩:=uc2 k 0 1;obtain ⟨J,M⟩:=uc2 j 0 1;simp only [gX] at k0 C A D n s l t)|(refine wpList_load_mid rfl 82 (.tmp 80) rfl w.heap.size 11 rfl _ _ (aq (off:=11) (vs:=[.int .i32 d.qm,.int .i64 d.qs,.int .i8 d.qz]) f.o rfl) underlying82 rfl kM ?_)|(go_at_call 124;refine qM (AQ.o _) fun w8 i=>?_;obtain ⟨m,f,k,j,v⟩:=uz5 i m f k j v;clear i)|(refine sG #[.int .i8 V,.int .i8 X] v.o ?_;intro S E F))
    refine rG E ?_;exact ⟨by rw [x.o] <;> rfl,(m.o.away F oM).out⟩
   ·have s1:(d.kind == 1)=false:=by rw [h];rfl
    have s2:(d.kind == 2)=false:=by rw [h];rfl
    have s3:(d.kind == 3)=true:=by rw [h];rfl
    clear h
    go_wp2_with (first|(go_at_call 93;refine qM (SH.o _) fun w6 i=>?_;obtain ⟨m,f,k,j,v⟩:=uz5 i m f k j v;clear i;clear k0 C A D n s l t H I J M;obtain ⟨k0,C,A,D,n,s,l,t⟩:=uc8 f 0 5 7 9 10 13 17 18;obtain ⟨H,I⟩:=uc2 k 0 1;obtain ⟨J,M⟩:=uc2 j 0 1;simp only [gX] at k0 C A D n s l t)|(go_at_call 94;refine qM (RW.o _ (HW.o.fut m.u).all (HB.o.fut m.u).all) fun w7 i=>?_;obtain ⟨m,f,k,j,v⟩:=uz5 i m f k j v;clear i;clear k0 C A D n s l t H I J M;obtain ⟨k0,C,A,D,n,s,l,t⟩:=uc8 f 0 5 7 9 10 13 17 18;obtain ⟨H,I⟩:=uc2 k 0 1;obtain ⟨J,M⟩:=uc2 j 0 1;simp only [gX] at k0 C A D n s l t)|(refine wpList_load_mid rfl 82 (.tmp 80) rfl w.heap.size 11 rfl _ _ (aq (off:=11) (vs:=[.int .i32 d.qm,.int .i64 d.qs,.int .i8 d.qz]) f.o rfl) underlying82 rfl kM ?_)|(go_at_call 124;refine qM (AQ.o _) fun w8 i=>?_;obtain ⟨m,f,k,j,v⟩:=uz5 i m f k j v;clear i)|(refine sG #[.int .i8 V,.int .i8 X] v.o ?_;intro S E F))
    refine rG E ?_;exact ⟨by rw [x.o] <;> rfl,(m.o.away F oM).out⟩
 | false =>
 rw [if_neg dM,if_neg Z] at x;have bc:¬ (d.kind=1 ∨ d.kind=2 ∨ d.kind=3):=fun h=>by unfold bk at R;rw [qT h] at R;cases R
 have s1:(d.kind == 1)=false:=sO;have s2:(d.kind == 2)=false:=sO;have s3:(d.kind == 3)=false:=sO;clear H1 bc R KC;by_cases c7:d.kind=7
 ·have t7:(d.kind == 7)=true:=by simp [c7]
  rw [if_pos c7] at x;try simp only at x
  obtain ⟨V,P⟩:∃ y,fU d O=y:=⟨_,rfl⟩;obtain ⟨X,Q⟩:∃ y,fU d N=y:=⟨_,rfl⟩;rw [P] at A1 x;rw [Q] at A2 x;clear P Q Y ge c7;go_wp2_with fail;clear k0 C A D n s l t H I J M;refine aP (fun w'=>w'.cell? ⟨w1.heap.size,0,none⟩=some (.int .i8 O)∧w'.cell? ⟨w2.heap.size,0,none⟩=some (.int .i8 U)∧w'.cell? ⟨w1.heap.size,1,none⟩=some (.int .i8 N)∧w'.cell? ⟨w2.heap.size,1,none⟩=some (.int .i8 T)∧Blk w' w.heap.size 84 (nD d W nw cw B nb cb)∧Below w5 w5 w') 9 kM ?_ (fun G=>?_)
  ·exact ⟨k.o.drew.cell 0,j.o.drew.cell 0,k.o.drew.cell 1,j.o.drew.cell 1,f.o.drew,(qB _ _).drew⟩
  refine kT' 0 G ?_;refine kT' 1 G ?_;refine tkT 2 rfl (yB 84 (.tmp 3) w (fun w hs=>hs.2.2.2.2.1) underlying84) G ?_;try simp only [pX]
  refine kT' 4 G ?_;refine kT' 5 G ?_;refine tkT 6 rfl (yB 84 (.tmp 3) w (fun w hs=>hs.2.2.2.2.1) underlying84) G ?_;try simp only [pX]
  refine rT 3 (fun K hK=>?_);go_simp
  with_reducible refine (A1.o _).mono ?_;rintro e wm ⟨rfl,i⟩
  refine xK hK (zR i G) fun G=>?_;clear hK K;refine rT 7 (fun K hK=>?_);go_simp
  with_reducible refine (A2.o _).mono ?_;rintro e wm ⟨rfl,i⟩
  refine xK hK (zR i G) fun G=>?_;clear hK K;refine kT' 8 G ?_;refine wpAnyT_tail _ _ rfl rfl kM ?_;have kd:=G.2.2.2.2.2;obtain ⟨m,v⟩:=uz2 kd m v;clear G kd i
  go_wp2_with (refine sG #[.int .i8 V,.int .i8 X] v.o ?_;intro S E F)
  refine rG E ?_;exact ⟨by rw [x.o] <;> rfl,(m.o.away F oM).out⟩
 have t7:(d.kind == 7)=false:=by simp [c7]
 rw [if_neg c7] at x;by_cases c8:d.kind=8∧0 < d.p
 ·have t8:(d.kind == 8)=true:=by simp [c8.1]
  have t9:decide (0 < d.p)=true:=by simpa using c8.2
  rw [if_pos c8] at x;try simp only at x
  obtain ⟨V,P⟩:∃ y,min O d.za=y:=⟨_,rfl⟩;obtain ⟨X,Q⟩:∃ y,max N d.za=y:=⟨_,rfl⟩;rw [P,Q] at x;have m1:(if d.za < O then d.za else O)=V:=by rw [mnI,P]
  have m19:min O d.za=V:=(mnI O d.za).symm.trans m1
  have m2:(if N < d.za then d.za else N)=X:=by rw [mxI,Q]
  have m29:max N d.za=X:=(mxI N d.za).symm.trans m2
  clear P Q Y ge c8
  go_upto_region 19 with fail
  clear k0 C A D n s l t H I J M;obtain ⟨A,t⟩:=uc2 f 7 8;obtain ⟨H,I⟩:=uc2 k 0 1;simp only [gX] at A t
  go_wp2_with (refine sG #[.int .i8 V,.int .i8 X] v.o ?_;intro S E F)
  refine rG E ?_;exact ⟨by rw [x.o] <;> rfl,(m.o.away F oM).out⟩
 rw [if_neg c8] at x;have t8:(d.kind == 8)=true → decide (0 < d.p)=false:=fun h=>by simp only [beq_iff_eq] at h;simpa using fun hp=>c8 ⟨h,hp⟩
 obtain ⟨k8,bd⟩:∃ b,(d.kind == 8)=b:=⟨_,rfl⟩;rw [bd] at t8;cases k8 with
 | true =>
  have t9:=t8 rfl;clear t8 c8 Y ge
  go_wp2_with (first|(refine lG k.o ?_)|(refine sG #[.int .i8 O,.int .i8 N] v.o ?_;intro S E F))
  refine rG E ?_;exact ⟨by rw [x.o] <;> rfl,(m.o.away F oM).out⟩
 | false =>
  clear t8 c8 Y ge
  go_wp2_with (first|(refine lG k.o ?_)|(refine sG #[.int .i8 O,.int .i8 N] v.o ?_;intro S E F))
  refine rG E ?_;exact ⟨by rw [x.o] <;> rfl,(m.o.away F oM).out⟩
end Go.Proofs.YtbecbfpoahhpnaaGreat
