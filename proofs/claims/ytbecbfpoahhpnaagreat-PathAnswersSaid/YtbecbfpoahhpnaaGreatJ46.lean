/- Between which numbers all values of a block lie (layer 32): the document's Flow. -/
import Derived.Test.YtbecbfpoahhpnaaGreatJ45
import Derived.Test.YtbecbfpoahhpnaaGreatJ29
set_option linter.unusedVariables false
set_option linter.unusedSimpArgs false
set_option maxRecDepth 100000
set_option maxHeartbeats 16000000
namespace Go.Proofs.YtbecbfpoahhpnaaGreat
open Go.RowKit Go.ChangeShapes Go.WideShapes Tryz
theorem wG:EI prog 163 167 (.agg #[.int .i8 0,.int .i8 0]) 2 2:=⟨underlying163,by kernel_rfl,rfl,by decide⟩
theorem zE (A:QA) (n ba:Nat) (l:List af) (lo hi:Int) (w:World) (G:Sl di w (blo w) A n ba l) (bd:InK .i8 lo) (br:InK .i8 hi) (hf:∀ d ∈ l,d.w.length≤1000∧d.bias.length≤100) (V:∀ d ∈ l,bk d.kind=true → 1≤d.w.length) :
  Calls prog 70 #[.slice A n ba,.agg #[.int .i8 lo,.int .i8 hi]] w (dE (da l (lo,hi)) w):=by
 have hn:=G.n_eq;obtain ⟨r,hr⟩:∃ r,da l (lo,hi)=r:=⟨_,rfl⟩;rw [hr];unfold da at hr;simp only [hn] at hr;obtain ⟨II,Q,H,HF,H1⟩:=zh5 (And.intro bd br) hr.symm G hf V;have ca:n≤9223372036854775807:=lT G.cap_le G.max_le;clear hr G hf V bd br hn;have N:=zW w;obtain ⟨w1,bW,BA,N⟩:=nF N #[.int .i8 lo,.int .i8 hi] 167;have l1:=zL bW;by_cases J:n=0
 ·have t1:((n:Int) == 0)=true:=sO;have R:=zH (show r=([],-1,12) by rw [Q.o,if_pos J]);clear J Q;go_in;go_wp2
  go_ret3
  rw [R.o];exact dE.none N.u
 have t1:((n:Int) == 0)=false:=sO;by_cases c2:8 < n
 ·have t2:decide (8 < (n:Int))=true:=sO;have R:=zH (show r=([],-1,4) by rw [Q.o,if_neg J,if_pos c2]);clear J c2 Q;go_in;go_wp2
  go_ret3
  rw [R.o];exact dE.none N.u
 have t2:decide (8 < (n:Int))=false:=sO;have ci:n≤8:=oM;have cB:=fun i=>BA.o.cell i;by_cases c3:hi < lo
 ·have t3:decide (hi < lo)=true:=by simpa using c3
  have R:=zH (show r=([],-1,2) by rw [Q.o,if_neg J,if_neg c2,if_pos c3]);clear J c2 c3 Q;go_in;go_wp2
  go_ret3
  rw [R.o];exact dE.none N.u
 have t3:decide (hi < lo)=false:=by simpa using c3
 have V2:=zH (show r=AK n (e9 ee l (lo,hi) n) by rw [Q.o,if_neg J,if_neg c2,if_neg c3]);clear J c2 c3 Q;go_in
 go_wp2_with (first|(refine lG BA.o ?_)|(refine cJ rfl (.tmp 24) rfl wG #[.int .i8 lo,.int .i8 hi] rfl rfl dM ?_))
 have z2:=N.o.size;clear cB;go_loopw [7,8] (fun u i wr=>∃ (k:Nat) (out:List (Int × Int)),k≤n∧i=.int .i64 k∧e9 ee l (lo,hi) k=.on out∧(∀ p ∈ out,InK .i8 p.1∧InK .i8 p.2)∧Own (tRg .i8) wr (fun _=>False) w.heap.size 167 u (k+1) out∧Below w w wr) (fun _ i _=>n - (intOf i).toNat)
 case atStart=>exact ⟨0,[(lo,hi)],zl _,rfl,rfl,by intro p hp;rw [List.mem_singleton.1 hp];exact II.o,Own.one z2 (ma II.o.1 II.o.2),N.u.alloc z2 _⟩
 case round =>
  clear N BA z2 t1 t2 t3;obtain ⟨k,out,hk,rfl,X,C,F,q⟩:=hrel;obtain ⟨O,ON,HR,HI⟩:=zh4 q F X C;obtain ⟨A1,J,rfl,sl⟩:=F.sl (S':=bin w wr) (by show 0 < 2;decide) (fun b V h2=>⟨V,h2⟩) (fun _ h=>h.elim);have SL:=zH sl;clear q F X sl C;by_cases bc:k < n
  ·have p1:(k:Int) < (n:Int):=oM;obtain ⟨d,b0,off,W,nw,Z,B,nb,cb,hd,rfl,_,_,C,ay,I,bb⟩:=(H.o.below O.o (fun _ h=>h)).node_at k bc;have bN:=HF.o d (mG hd);have ac:=H1.o d (mG hd);have bw:=rh HR.o hd;have q8:=ay.n_eq;have bR:=I.n_eq;rw [q8] at ac;have bp:=SL.o.n_eq;obtain ⟨z,RG,ax,be,TH,GG⟩:=zh6 (uz HI.o C) bb (ay.more (dV O.o.size)) (I.more (dV O.o.size)) (fun w=>pC d W nw Z B nb cb ((k+1:Nat):Int) w) (fun al ah bl bh w V h2 i1 i2 i3 i4=>qo d W nw Z B nb cb al ah bl bh w V h2 C i1 i2 i3 i4 oM oM ac);have TB:=fJ (d:=d) (n:=((k+1:Nat):Int));have P:=zH (show ee d out=if bi d ((k+1:Nat):Int)=false then ((0,0),8) else eM d (out.getD d.a.toNat (0,0)) (out.getD (ar d).toNat (0,0)) by unfold ee;rw [bp]);obtain ⟨th,bg⟩:∃ x,bi d ((k+1:Nat):Int)=x:=⟨_,rfl⟩;rw [bg] at TH TB P;obtain ⟨KF,L⟩:=zh2 (show (d.kind=6 → ar d=d.b)∧(d.kind ≠ 6 → ar d=d.a) from ⟨fun h=>if_pos h,fun h=>if_neg h⟩) bw;clear hd C ay I bb ac bw bp bg q8 bR bN;have zr:=O.o.size;have f:=zW wr;cases th with
   | false =>
    have R:=zH (show r=([],(k:Int),8) by
     have:=L.o;rw [P.o,if_pos rfl,if_pos dM] at this;rw [V2.o,oq this n oM];rfl)
    clear TB P L V2 GG KF z
    go_wp2_with (first
     | (refine lM 84 (.tmp 34) RG.o underlying84 ?_)
     | (refine sF 84 (.tmp 9) (.tmp 35) (nD d W nw Z B nb cb) ?_;intro w7 b7 k7;replace f:=zN k7 f b7;clear b7)
     | (refine lG f.o.2 ?_))
    refine qM (TH.o _) fun w8 q=>?_;replace f:=zF q f;clear q;go_wp2
    go_ret3
    rw [R.o];exact dE.none (aa f.o.1.out O.o)
   | true =>
    obtain ⟨u1,u2,u3,u4⟩:=TB rfl;rw [if_neg dM] at P;obtain ⟨⟨y1,y2⟩,g0,an,hy,e0,_,_,j1,j2,q1⟩:=SL.o.rg_at d.a.toNat oM;obtain ⟨⟨T,U⟩,bM,bn,hz,e1,_,_,j3,j4,q2⟩:=SL.o.rg_at (ar d).toNat oM;subst e0;obtain ⟨rfl,rfl⟩:g0=bM∧an=bn:=by simpa using e1
    rw [aX hy,aX hz] at P;simp only at q1 q2 j1 j2 j3 j4;obtain ⟨Q1,GN⟩:=zh2 q1 (fun w V h2=>GG.o y1 y2 T U w V h2 j1 j2 j3 j4);unfold sS at GN;obtain ⟨⟨⟨x1,x2⟩,xe⟩,bx⟩:∃ s,eM d (y1,y2) (T,U)=s:=⟨_,rfl⟩;rw [bx] at GN P;simp only at GN;rw [P.o] at L z;simp only at L z;have y3:d.a < (k:Int)+1:=oM;have W6:=zH (show d.kind=6 → 0≤d.b∧d.b < (k:Int)+1∧wr.rangeAt g0 (an+d.b.toNat*2) [.int .i8 T,.int .i8 U] from fun h=>by
     have e:=KF.o.1 h;rw [e] at q2;exact ⟨by omega,by omega,q2⟩)
    have N6:=zH (show d.kind ≠ 6 → y1=T∧y2=U from fun h=>by
     rw [KF.o.2 h,hy] at hz;simpa using hz)
    clear hy hz bx e1 q1 q2 j1 j2 j3 j4 P GG u2 u3 u4 TB KF
    go_wp2_with (first
     | (refine lM 84 (.tmp 34) RG.o underlying84 ?_)
     | (refine sF 84 (.tmp 9) (.tmp 35) (nD d W nw Z B nb cb) ?_;intro w7 b7 k7;replace f:=zN k7 f b7;clear b7)
     | (refine lG f.o.2 ?_))
    refine qM (TH.o _) fun w8 q=>?_;replace f:=zF q f;clear q;have cA:=fun i=>f.o.2.cell i;obtain ⟨bT,bD⟩:=zh2 (show wr.heap.size < w8.heap.size from f.o.2.lt) (de Q1.o f.o.1.out)
    go_upto_if 49 with (first
     | (refine lM 167 (.tmp 45) bD.o underlying167 ?_)
     | (refine sF 167 (.tmp 10) (.tmp 46) #[.int .i8 y1,.int .i8 y2] ?_;intro Y b9 k9;replace f:=zN k9 f b9;clear b9 cA;have cA:=fun i=>f.o.1.2.cell i))
    obtain ⟨gb,ad⟩:∃ x,x=w8.heap.size:=⟨_,rfl⟩;rw [← ad] at f ⊢;have GB:=zH ad;clear ad k9;go_cut [] (fun wx=>(Far wr wx∧Blk wx wr.heap.size 84 (nD d W nw Z B nb cb))∧Blk wx gb 167 #[.int .i8 T,.int .i8 U])
    case first =>
     by_cases c6:d.kind=6
     ·have t6:(d.kind == 6)=true:=by simp [c6]
      obtain ⟨v1,v2,q2⟩:=W6.o c6;have bH:=zH (de q2 f.o.1.1.out);have zb:wr.heap.size < gb:=by rw [GB.o];exact bT.out
      clear c6 q2
      go_wp2_with (first
       | (refine lM 167 (.tmp 53) bH.o underlying167 ?_)
       | (refine sB 167 (.tmp 10) (.tmp 54) gb #[.int .i8 T,.int .i8 U] f.o.2 ?_;intro cn bt bo;replace f:=zS bo bt f;clear bt bo))
      go_meet
      case rel=>exact f.o
     ·have t6:(d.kind == 6)=false:=by simpa using c6
      obtain ⟨rfl,rfl⟩:=N6.o c6;clear c6;go_wp2_with fail;go_meet
      case rel=>exact f.o
    case rest =>
    obtain ⟨Y,bO⟩:∃ x,x=wc:=⟨_,rfl⟩;subst bO;obtain ⟨BD,BB,G8⟩:=zh3 hcut.1.2 hcut.2 hcut.1.1.out;clear hcut f cA
    go_upto_region 17 with fail
    go_cut [11,12] (fun b c wx=>∃ g,b=.pointer (some ⟨g,0,none⟩)∧c=.int .i64 xe∧Blk wx g 167 #[.int .i8 x1,.int .i8 x2]∧Below wr wr wx)
    case first =>
     refine wp_region_held_drew (S:=fun w'=>w'.cell? ⟨wr.heap.size,1,none⟩=some (.int .i64 d.a)∧Blk w' wr.heap.size 84 (nD d W nw Z B nb cb)∧Blk w' gb 167 #[.int .i8 T,.int .i8 U]∧Below wr wr w') kM ?_ (fun m=>?_)
     ·exact ⟨BD.o.drew.cell 1,BD.o.drew,BB.o.drew,G8.o.drew⟩
     refine tkH 0 rfl (yP (nD d W nw Z B nb cb) (fun w G=>G.2.1)) m ?_;try simp only [pX]
     refine kH' 1 m ?_;refine kH' 2 m ?_;refine kH' 3 m ?_;refine kH' 4 m ?_;refine tkH 5 rfl (yieldsIf_load_mid (by rfl) 167 (.tmp 60) rfl g0 (an+d.a.toNat*2) rfl _ _ (fun w G j v hv=>au G.2.2.2 (Q1.o j v hv)) underlying167 rfl kM) m ?_;try simp only [pX]
     refine tkH 6 rfl (yP #[.int .i8 T,.int .i8 U] (fun w G=>G.2.2.1)) m ?_;try simp only [pX]
     refine wpAnyH_ready (rs:=[7,11]) kM sM ?_;refine AllReadyH.cons rfl (fun K y=>?_) (AllReadyH.cons rfl (fun K y=>?_) AllReadyH.nil)
     ·go_simp;refine qM (GN.o _ (ax.o.later m.2.2.2 (lR _)) (be.o.later m.2.2.2 (lR _))) fun wa q=>?_;refine xK y (zR q m) fun m=>?_;clear y K;refine kH' 8 m ?_;refine kH' 9 m ?_;refine kH' 10 m ?_;refine rH 11 rfl (fun K y=>?_);go_simp;have ct:wr.heap.size < wa.heap.size:=m.2.1.lt;have ce:gb < wa.heap.size:=m.2.2.1.lt;obtain ⟨q,BZ⟩:=zB wa #[.int .i8 0,.int .i8 0] 167;refine xK y (zR q m) fun m=>?_;clear y K;refine rH 12 rfl (fun K y=>?_);rw [if_pos (by rfl)];refine oG #[.int .i8 x1,.int .i8 x2] BZ.o ?_;intro wc BX gc;have D:=m.2.1.away gc oM;refine y.out _ _ ⟨D.cell 1,D,m.2.2.1.away gc oM,m.2.2.2.grown gc m.2.2.2.size (fun k h=>by have:=sI h;omega)⟩ (fun m=>?_);clear y K;try simp only [pX]
      refine kH' 13 m ?_;refine wpAnyH_done kM ?_ _;have FZ:=m.2.2.2;go_wp2_with fail;go_meet
      case rel=>exact ⟨_,rfl,rfl,BX,FZ⟩
     ·go_simp;have ct:wr.heap.size < Y.heap.size:=m.2.1.lt;have ce:gb < Y.heap.size:=m.2.2.1.lt;have q:Below Y.drew.heap.size Y.drew (Y.drew.alloc (.cells #[.int .i8 0,.int .i8 0] 167)):=(qB _ _).alloc (lR _) _;have BZ:=zH (Blk.now Y.drew Y.heap.size 167 #[.int .i8 0,.int .i8 0] rfl);refine xK y (zR q m) fun m=>?_;clear y K;refine rH 7 rfl (fun K y=>?_);go_simp;refine qM (GN.o _ (ax.o.later m.2.2.2 (lR _)) (be.o.later m.2.2.2 (lR _))) fun wa q=>?_;replace BZ:=zH (BZ.o.later q);refine xK y (zR q m) fun m=>?_;clear y K;refine kH' 8 m ?_;refine kH' 9 m ?_;refine kH' 10 m ?_;refine rH 12 rfl (fun K y=>?_);rw [if_pos (by rfl)];refine oG #[.int .i8 x1,.int .i8 x2] BZ.o ?_;intro wc BX gc;have D:=m.2.1.away gc oM;refine y.out _ _ ⟨D.cell 1,D,m.2.2.1.away gc oM,m.2.2.2.grown gc m.2.2.2.size (fun k h=>by have:=sI h;omega)⟩ (fun m=>?_);clear y K;try simp only [pX]
      refine kH' 13 m ?_;refine wpAnyH_done kM ?_ _;have FZ:=m.2.2.2;go_wp2_with fail;go_meet
      case rel=>exact ⟨_,rfl,rfl,BX,FZ⟩
    case rest =>
     obtain ⟨wb,rfl,rfl,BX,bs⟩:=hcut;obtain ⟨G9,bB⟩:=zh2 bs BX;have OC:=zH (ON.o.below G9.o (lR _) (fun _ h=>h.elim));clear BX bs BD BB G8 GN;by_cases M:xe=0
     ·subst M;rw [if_neg dM] at L
      go_wp2_with (first
       | (refine lG bB.o ?_)
       | (refine cJ rfl (.tmp 71) rfl wG #[.int .i8 x1,.int .i8 x2] rfl rfl dM ?_)
       | (at_builtin;refine wpList_push (W:=wc) (cs:=#[.int .i8 x1,.int .i8 x2]) (E:=167) (t:=tRg .i8) (S:=fun _=>False) (base:=w.heap.size) rfl (.tmp 70) (.tmp 72) rfl wG rfl OC.o 1 rfl (x1,x2) (ma z.o.1 z.o.2) mL oM (lT zr G9.o.size) (fun _ h=>h.elim) ?_;intro v' wz bA gz co))
      have bz:=(aa G9.o O.o).grown gz (lT zr G9.o.size) (fun j hj=>(OC.o.lt j hj).1);exact ⟨⟨k+1,out ++ [(x1,x2)],by omega,by go_num,L.o,by intro p hp;rcases List.mem_append.1 hp with h|h;exact HI.o p h;rw [List.mem_singleton.1 h];exact z.o,bA,bz⟩,by simp [intOf];omega⟩
     ·have t5:(xe != 0)=true:=by simpa using M
      rw [if_pos M] at L;have R:=zH (show r=([],(k:Int),xe) by rw [V2.o,oq L.o n oM];rfl);clear M L V2;go_wp2
      go_ret3
      rw [R.o];exact dE.none (aa G9.o O.o)
  ·obtain rfl:k=n:=oM;have R:=zH (show r=(out,(k:Int),0) by rw [V2.o,HR.o];rfl);clear bc hk V2;go_wp2
   go_ret3
   rw [R.o];exact ⟨A1,_,J,rfl,SL.o,O.o⟩
theorem CQ {m:Int} {nw nb:Nat} {need cl:Int} (h:aU m nw nb need cl=0):1≤nw:=by
 unfold aU at h;split at h
 ·cases h
 split at h
 ·cases h
 split at h
 ·cases h
 rename_i e a t;have o:(nw:Int)=cl*m:=Classical.byContradiction fun q=>t (.inl q);have i:cl*m ≠ 0:=Int.mul_ne_zero oM e;omega
theorem vE (b:aN) (L:QA) (n S:Nat) (W:QA) (nw q:Nat) (B:QA) (nb cb:Nat) (s:Sh3) (cl:Int) (last:Bool) (w:World)
  (t:dz b L n S W nw q B nb cb (blo w) w) (hs:InK .i64 s.1∧InK .i64 s.2.1∧InK .i64 s.2.2) (ah:InK .i64 cl) (hf:iu b) :
  Calls prog 48 #[.agg #[.slice L n S,.bool b.exit,.slice W nw q,.slice B nb cb,.int .i32 b.head.need],.agg (sN s.1 s.2.1 s.2.2),.int .i64 cl,.bool last] w
   fun e w'=>e=.returned (.tuple #[.int .i64 (dD b s cl last).1,.int .i64 (dD b s cl last).2])∧Below w w w':=by
 obtain ⟨HN,HB,LN,SP,FL,T⟩:=zh6 (Old.now t.nodes) t t.nodes.n_eq (fun w h=>kr L n S b.nodes s.1 s.2.1 s.2.2 w h hs.1 hs.2.1 hs.2.2 hf.1.2) (fun w h D=>zE L n S b.nodes (-128) 127 w h dM dM hf.1.2 D) (fun h v c w h0 D h2=>ue h v c W nw q B nb cb b.head.need cl w h0 D h2 (lT t.hw.cap_le t.hw.max_le) (lT t.hb.cap_le t.hb.max_le) ah);have Q:nw≤16384∧nb≤16384:=⟨by have:=hf.2.1;rw [t.hw.n_eq] at this;omega,by have:=hf.2.2;rw [t.hb.n_eq] at this;omega⟩;obtain ⟨X,f,R,U⟩:=zh4 (fun lo hi (w:World) (t:dz b L n S W nw q B nb cb (blo w) w) ax ay D=>ql W nw q b.head.w B nb cb b.head.bias b.head.need lo hi w (dz.hw t) (dz.hb t) ax ay Q.1 Q.2 D) (fun o r=>show eY b o r cl last=if b.exit=false then (if last=true ∨ mT b.head=true then 11 else 0) else if aU (ag o.1 o.2.1 o.2.2) nw nb b.head.need cl ≠ 0 then aU (ag o.1 o.2.1 o.2.2) nw nb b.head.need cl else gW b.head.w b.head.bias r.1 r.2 by unfold eY;rw [t.hw.n_eq,t.hb.n_eq]) (show mT b.head=(decide (0 < nw) || (decide (0 < nb) || b.head.need != 0)) by unfold mT;rw [t.hw.n_eq,t.hb.n_eq]) (fun m=>CQ (m:=m) (nw:=nw) (nb:=nb) (need:=b.head.need) (cl:=cl));have mw:nw≤9223372036854775807:=oM;have mb:nb≤9223372036854775807:=oM;obtain ⟨SW,SL,p⟩:=zh3 (uw (l:=b.nodes) (s:=s)) (fg (l:=b.nodes) (s:=s)) (tC (l:=b.nodes) (a:=(-128,127)));have d:=zH (show dD b s cl last=if (ao b.nodes s).2.2 ≠ 0 then (ao b.nodes s).2 else if (da b.nodes (-128,127)).2.2 ≠ 0 then (da b.nodes (-128,127)).2
  else if eY b ((ao b.nodes s).1.getD b.nodes.length (0,0,0)) ((da b.nodes (-128,127)).1.getD b.nodes.length (0,0)) cl last ≠ 0 then (-1,eY b ((ao b.nodes s).1.getD b.nodes.length (0,0,0)) ((da b.nodes (-128,127)).1.getD b.nodes.length (0,0)) cl last)
  else ((b.nodes.length:Int),0) from rfl)
 obtain ⟨r,hr⟩:∃ x,dD b s cl last=x:=⟨_,rfl⟩;obtain ⟨⟨sl,sp,se⟩,M⟩:∃ x,ao b.nodes s=x:=⟨_,rfl⟩;obtain ⟨⟨fl,fp,fe⟩,I⟩:∃ x,da b.nodes (-128,127)=x:=⟨_,rfl⟩;obtain ⟨s1,s2,s3⟩:=s;simp only at SP;rw [hr,M,I] at d;simp only [LN.o] at d;rw [hr];simp only [M] at SP SW SL;simp only [I] at FL p;rw [LN.o] at SL p;unfold bv at SP;unfold dE at FL;simp only at SP FL;obtain ⟨need,K⟩:∃ x,b.head.need=x:=⟨_,rfl⟩;obtain ⟨ex,G⟩:∃ x,b.exit=x:=⟨_,rfl⟩;rw [K,G];simp only [K,G] at T X f R U;obtain ⟨k,ad⟩:∃ x,mT b.head=x:=⟨_,rfl⟩;simp only [ad] at f R;have H:=zW w;have mx:n≤9223372036854775807:=lT t.nodes.cap_le t.nodes.max_le;clear t hs ah hr M I K G hf ad Q;obtain ⟨w1,ba,B1,k1⟩:=nB w #[.slice L n S,.bool ex,.slice W nw q,.slice B nb cb,.int .i32 need] 51;replace H:=zN k1 H B1;clear B1 k1;obtain ⟨w2,bo,B2,k2⟩:=nB w1 (sN s1 s2 s3) 23;replace H:=zN k2 H B2;clear B2 k2;have j:=fun i=>H.o.1.2.cell i;go_in
 go_wp2_with (refine lG H.o.2 ?_)
 refine (SP.o _ (HN.o.fut H.o.1.1.out).all).mono ?_;rintro e w3 ⟨A3,m3,c3,rfl,q3,t⟩;obtain ⟨N3,K3⟩:=zh2 (New.of q3 H.o.1.1) q3.n_eq;replace H:=zN t H N3;clear t j q3 N3;have j:=fun i=>H.o.1.1.2.cell i;by_cases e1:se=0;rotate_left
 ·have t1:(se != 0)=true:=by simpa using e1
  rw [if_pos e1] at d;clear e1;go_wp2_with fail
  go_ret2
  exact ⟨by rw [d.o] <;> rfl,H.o.1.1.1.out⟩
 subst e1;rw [if_neg dM] at d;go_wp2_with fail;refine (FL.o _ (HN.o.fut H.o.1.1.1.out).all (SW.o (by trivial))).mono ?_;rintro e w4 ⟨A4,m4,c4,rfl,q4,t⟩;obtain ⟨N4,K4⟩:=zh2 (New.of q4 H.o.1.1.1) q4.n_eq;replace H:=zN t H N4;clear t j q4 N4;have j:=fun i=>H.o.1.1.1.2.cell i;by_cases e2:fe=0;rotate_left
 ·have t2:(fe != 0)=true:=by simpa using e2
  rw [if_pos e2] at d;clear e2;go_wp2_with fail
  go_ret2
  exact ⟨by rw [d.o] <;> rfl,H.o.1.1.1.1.out⟩
 subst e2;rw [if_neg dM] at d;have M3:m3=n+1:=by rw [← K3.o];exact SL.o (by trivial)
 have M4:m4=n+1:=by rw [← K4.o];exact p.o (by trivial)
 have i3:(n:Int) < (m3:Int):=oM;have i4:(n:Int) < (m4:Int):=oM;have be:=lT H.o.1.2.old.cap_le H.o.1.2.old.max_le;have bt:=lT H.o.2.old.cap_le H.o.2.old.max_le;unfold maxLen at be bt;have s3:IntKind.i64.wrap ((m3:Int) - 1)=(n:Int):=(wJ).trans oM;have s4:IntKind.i64.wrap ((m4:Int) - 1)=(n:Int):=(wJ).trans oM;obtain ⟨b3,o3,rfl,-,-,N,O,P,-,r3⟩:=H.o.1.2.old.shape_at n oM;obtain ⟨y,b4,o4,hy,rfl,-,-,al,ac,r4⟩:=H.o.2.old.rg_at n oM;rw [aX hy] at d;obtain ⟨⟨x1,x2,x3⟩,hx⟩:∃ x,sl.getD n (0,0,0)=x:=⟨_,rfl⟩;rw [hx] at d r3 N O P;obtain ⟨y1,y2⟩:=y;replace T:=zH (fun w=>T.o x1 x2 x3 w N O P);replace X:=zH (fun w t D=>X.o y1 y2 w t al ac D);have EV:=f.o (x1,x2,x3) (y1,y2);simp only at EV;replace U:=zH (U.o (ag x1 x2 x3));obtain ⟨ck,F⟩:∃ g,aU (ag x1 x2 x3) nw nb need cl=g:=⟨_,rfl⟩;obtain ⟨hd,J⟩:∃ g,gW b.head.w b.head.bias y1 y2=g:=⟨_,rfl⟩;rw [F,J] at EV;simp only [F] at T U;simp only [J] at X;rw [EV] at d;clear M3 M4 hx hy N O P al ac F J EV f K3 K4 SL p;obtain ⟨R3,R4⟩:=zh2 r3 r4;clear r3 r4
 go_upto_region 7 with fail
 go_cut [16] (fun v wx=>v=.bool k∧wx=w4)
 case first =>
  by_cases g1:0 < nw
  ·have t3:decide (0 < (nw:Int))=true:=sO;have E:=zH (show k=true by rw [R.o,qT g1];rfl);go_wp2_with fail;go_meet
   case rel=>exact ⟨by rw [E.o],rfl⟩
  have t3:decide (0 < (nw:Int))=false:=sO;by_cases g2:0 < nb
  ·have t4:decide (0 < (nb:Int))=true:=sO;have E:=zH (show k=true by rw [R.o,qT g2];simp);go_wp2_with fail;go_meet
   case rel=>exact ⟨by rw [E.o],rfl⟩
  have t4:decide (0 < (nb:Int))=false:=sO;have E:=zH (show k=(need != 0) by rw [R.o,dF g1,dF g2];rfl);go_wp2_with fail;go_meet
  case rel=>exact ⟨by rw [E.o],rfl⟩
 case rest =>
 obtain ⟨rfl,rfl⟩:=hcut;clear R;cases ex with
 | false =>
  rw [if_pos rfl] at d;by_cases A:last=true ∨ k=true
  ·rw [if_pos A,if_pos dM] at d;have E:=zH (show (last || k)=true by simpa using A);clear A;cases last with
   | true =>
    go_wp2_with fail
    go_ret2
    exact ⟨by rw [d.o] <;> rfl,H.o.1.1.1.1.out⟩
   | false =>
    have t5:k=true:=by simpa using E.o
    subst t5;go_wp2_with fail
    go_ret2
    exact ⟨by rw [d.o] <;> rfl,H.o.1.1.1.1.out⟩
  ·rw [if_neg A,if_neg dM] at d;obtain rfl:last=false:=by cases last;rfl;exact absurd (Or.inl rfl) A
   obtain rfl:k=false:=by cases k;rfl;exact absurd (Or.inr rfl) A
   clear A;go_wp2_with fail
   go_ret2
   exact ⟨by rw [d.o] <;> rfl,H.o.1.1.1.1.out⟩
 | true =>
  rw [if_neg (show ¬ (true=false) by decide)] at d;obtain ⟨Y,Z,V⟩:=zh3 (fun z:Ext wc=>aq (off:=2) (vs:=[.slice W nw q,.slice B nb cb,.int .i32 need]) (H.o.1.1.1.2.ext z) rfl) (fun z:Ext wc=>de R3.o z.2) (fun z:Ext wc=>aB z (T.o z.1))
  go_upto_region 11 with fail
  refine am wc kM kM (qB _ _) ?_;repeat (go_big_quiet_step (fail))
  refine aj kM 23 (.tmp 76) rfl b3 (o3+n*3) rfl _ _ (by rintro _ ⟨z,rfl⟩;exact Z.o z) underlying23 rfl kM ?_;simp only [pX];repeat (go_big_quiet_step (fail))
  refine aj kM 49 (.tmp 78) rfl w.heap.size 2 rfl _ _ (by rintro _ ⟨z,rfl⟩;exact Y.o z) underlying49 rfl kM ?_;simp only [pX];repeat (go_big_quiet_step ((with_reducible exact V.o _)))
  refine wpQuiet_nil ?_;rintro wa ⟨⟨_,t⟩,rfl⟩;obtain ⟨H,R4⟩:=uz2 t H R4;clear t j Y Z V;have j:=fun i=>H.o.1.1.1.2.cell i;by_cases C:ck=0;rotate_left
  ·have t3:(ck != 0)=true:=by simpa using C
   rw [if_pos C,if_pos C] at d;clear C;go_wp2_with fail
   go_ret2
   exact ⟨by rw [d.o] <;> rfl,H.o.1.1.1.1.out⟩
  rw [if_neg (show ¬ ck ≠ 0 by simpa using C)] at d;have W1:=zH (U.o C);subst C;obtain ⟨Y,an,V⟩:=zh3 (fun z:Ext wa=>aq (off:=2) (vs:=[.slice W nw q,.slice B nb cb,.int .i32 need]) (H.o.1.1.1.2.ext z) rfl) (fun z:Ext wa=>de R4.o z.2) (fun z:Ext wa=>aB z (X.o z.1 ((HB.o.fut H.o.1.1.1.1.out).fut z.2) W1.o))
  go_upto_region 14 with fail
  refine am wa kM kM (qB _ _) ?_;go_big_quiet_step (fail);refine aj kM 49 (.tmp 85) rfl w.heap.size 2 rfl _ _ (by rintro _ ⟨z,rfl⟩;exact Y.o z) underlying49 rfl kM ?_;simp only [pX];repeat (go_big_quiet_step (fail))
  refine aj kM 167 (.tmp 91) rfl b4 (o4+n*2) rfl _ _ (by rintro _ ⟨z,rfl⟩;exact an.o z) underlying167 rfl kM ?_;simp only [pX];repeat (go_big_quiet_step ((with_reducible exact V.o _)))
  refine wpQuiet_nil ?_;rintro wb ⟨⟨_,t⟩,rfl⟩;replace H:=zF t H;clear t j Y an V;have j:=fun i=>H.o.1.1.1.2.cell i;by_cases e4:hd=0
  ·subst e4;rw [if_neg dM] at d;go_wp2_with fail
   go_ret2
   exact ⟨by rw [d.o] <;> rfl,H.o.1.1.1.1.out⟩
  ·have t4:(hd != 0)=true:=by simpa using e4
   rw [if_pos e4] at d;clear e4;go_wp2_with fail
   go_ret2
   exact ⟨by rw [d.o] <;> rfl,H.o.1.1.1.1.out⟩
end Go.Proofs.YtbecbfpoahhpnaaGreat
