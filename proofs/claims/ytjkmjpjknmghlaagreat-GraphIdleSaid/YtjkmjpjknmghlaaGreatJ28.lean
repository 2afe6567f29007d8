/-
  Sums, and numbers, scaled and held (layer 21): act.One, act.Put, the document's One, Put.
  The table of a function of numbers (layer 21): act.Table.
-/
import Derived.Test.YtjkmjpjknmghlaaGreatJ23
set_option linter.unusedVariables false
set_option linter.unusedSimpArgs false
namespace Go.Proofs.YtjkmjpjknmghlaaGreat
open Go.RowKit Go.ChangeShapes Go.WideShapes Fx
set_option maxRecDepth 100000
set_option maxHeartbeats 4000000
def oneV (d:Node) (x:Int):Int:=heldQ (x - d.za) d.qm d.qs d.qz d.lo d.hi
theorem oneV_in (d:Node) (x:Int):InK .i8 (oneV d x):=heldQ_in _ _ _ _ _ _
theorem actOne_any (x:Int) (d:Node) (W:Option Addr) (nw cw:Nat) (B:Option Addr) (nb cb:Nat) (w:World) (hx:InK .i8 x) (hd:NodeIn d) :
  Calls Tryz.prog 116 #[.int .i8 x,.agg (nN d.kind d.a d.b d.k d.s d.p d.out d.za d.zb W nw cw B nb cb d.qm d.qs d.qz d.rm d.rs d.rz d.lo d.hi)] w fun e w'=>e=.returned (.int .i8 (oneV d x))∧Below w.heap.size w w':=by
 have hz:=hd.za
 have HX:=hx
 rw [inK_i8] at hx hz
 obtain ⟨x1,x2⟩:=hx
 obtain ⟨z1,z2⟩:=hz
 have FR:=zH (Far.refl w)
 obtain ⟨w1,hw_w1,BN,k_w1⟩:=nB w (nN d.kind d.a d.b d.k d.s d.p d.out d.za d.zb W nw cw B nb cb d.qm d.qs d.qz d.rm d.rs d.rz d.lo d.hi) 44
 replace FR:=zH (FR.out.fut k_w1)
 clear k_w1
 have HE:=zH (fun w=>fixHeld_any (x - d.za) d.qm d.qs d.qz d.lo d.hi w (by rw [inK_i32];omega) hd.qm hd.qz hd.lo hd.hi)
 have d7:=BN.out.cell 7
 have d17:=BN.out.cell 17
 have d18:=BN.out.cell 18
 unfold oneV
 clear hd HX
 go_enter Tryz.func116,Tryz.ntmps116
 go_wp2_with (first|(refine wpList_load_blk rfl 42 (.tmp 11) rfl w.heap.size 11 rfl _ (nN d.kind d.a d.b d.k d.s d.p d.out d.za d.zb W nw cw B nb cb d.qm d.qs d.qz d.rm d.rs d.rz d.lo d.hi) #[.int .i32 d.qm,.int .i64 d.qs,.int .i8 d.qz] _ BN.out Tryz.underlying42 rfl (by kernel_rfl) rfl ?_)|(go_at_call 132;refine (HE.out _).mono ?_;rintro e w2 ⟨rfl,hb⟩))
 go_ret
 exact ⟨rfl,(FR.out.fut hb).out⟩
def putQ (a:Tensor) (d:Node):Tensor × Int:=if quantOk d.qm d.qs=true then (⟨a.h,a.v,a.c,allQ a.data d.qm d.qs d.qz d.lo d.hi⟩,0) else (noTensor,7)
theorem actPut_any (a:Tensor) (A:Option Addr) (n cap:Nat) (d:Node) (W:Option Addr) (nw cw:Nat) (B:Option Addr) (nb cb:Nat) (w:World) (ht:TensorIn a) (hd:NodeIn d)
  (ha:Sl (tInt .i32) w (blo w.heap.size) A n cap a.data) (he:elems a.h a.v a.c=n) (hn:0 < n) (hn2:n≤1024) :
  Calls Tryz.prog 90 #[.agg #[.int .i64 a.h,.int .i64 a.v,.int .i64 a.c,.slice A n cap],.agg (nN d.kind d.a d.b d.k d.s d.p d.out d.za d.zb W nw cw B nb cb d.qm d.qs d.qz d.rm d.rs d.rz d.lo d.hi)] w (RetT .i8 (putQ a d).1 (putQ a d).2 w):=by
 have EL:=zH (fun w=>elems_any a.h a.c a.v w ht.h ht.v ht.c)
 rw [he] at EL
 have QR:=zH (fun w=>fixRight_any d.qm d.qs d.qz w)
 have HA:=zH ha
 have HD:=zH hd
 have FR:=zH (Far.refl w)
 obtain ⟨w1,hw_w1,BA,k_w1⟩:=nB w #[.int .i64 a.h,.int .i64 a.v,.int .i64 a.c,.slice A n cap] 78
 replace FR:=zH (FR.out.fut k_w1)
 clear k_w1
 obtain ⟨w2,hw_w2,BN,k_w2⟩:=nB w1 (nN d.kind d.a d.b d.k d.s d.p d.out d.za d.zb W nw cw B nb cb d.qm d.qs d.qz d.rm d.rs d.rz d.lo d.hi) 44
 replace FR:=zH (FR.out.fut k_w2)
 replace BA:=zH (BA.out.fut k_w2)
 clear k_w2
 obtain ⟨w3,hw_w3,BR,k_w3⟩:=nB w2 #[.int .i64 0,.int .i64 0,.int .i64 0,.slice none 0 0] 27
 replace FR:=zH (FR.out.fut k_w3)
 replace BA:=zH (BA.out.fut k_w3)
 replace BN:=zH (BN.out.fut k_w3)
 clear k_w3
 have l1:w.heap.size < w1.heap.size:=by rw [← hw_w1];simp
 have l2:w1.heap.size < w2.heap.size:=by rw [← hw_w2];simp
 have n0:¬ n=0:=by omega
 have HQ:=zH (show putQ a d=if quantOk d.qm d.qs=true then (⟨a.h,a.v,a.c,allQ a.data d.qm d.qs d.qz d.lo d.hi⟩,0) else (noTensor,7) from rfl)
 obtain ⟨x,hx⟩:∃ x,putQ a d=x:=⟨_,rfl⟩
 rw [hx] at HQ ⊢
 obtain ⟨q,hq⟩:∃ q,quantOk d.qm d.qs=q:=⟨_,rfl⟩
 rw [hq] at QR HQ
 have QQ:=zH hq
 have c3:=BA.out.cell 3
 clear ht hd ha he hx hq hn
 cases q with
 | false =>
  rw [if_neg (by decide)] at HQ
  rw [HQ.out]
  go_enter Tryz.func90,Tryz.ntmps90
  go_wp2_with (first|(refine wpList_load_blk rfl 24 (.tmp 7) rfl w.heap.size 0 rfl _ #[.int .i64 a.h,.int .i64 a.v,.int .i64 a.c,.slice A n cap] #[.int .i64 a.h,.int .i64 a.v,.int .i64 a.c] _ BA.out Tryz.underlying24 rfl (by kernel_rfl) rfl ?_)|(go_at_call 23;refine (EL.out _).mono ?_;rintro e wa ⟨rfl,hb⟩;replace FR:=zH (FR.out.fut hb);replace BA:=zH (BA.out.fut hb);replace BN:=zH (BN.out.fut hb);replace BR:=zH (BR.out.fut hb);clear hb;clear c3;have c3:=BA.out.cell 3)|(refine wpList_load_blk rfl 42 (.tmp 20) rfl w1.heap.size 11 rfl _ (nN d.kind d.a d.b d.k d.s d.p d.out d.za d.zb W nw cw B nb cb d.qm d.qs d.qz d.rm d.rs d.rz d.lo d.hi) #[.int .i32 d.qm,.int .i64 d.qs,.int .i8 d.qz] _ BN.out Tryz.underlying42 rfl (by kernel_rfl) rfl ?_)|(go_at_call 73;refine (QR.out _).mono ?_;rintro e wb ⟨rfl,hb⟩;replace FR:=zH (FR.out.fut hb);replace BA:=zH (BA.out.fut hb);replace BN:=zH (BN.out.fut hb);replace BR:=zH (BR.out.fut hb);clear hb)|(refine sB 27 (.tmp 4) (.tmp 24) w2.heap.size #[.int .i64 0,.int .i64 0,.int .i64 0,.slice none 0 0] BR.out ?_;intro w9 B9 g9))
  refine ret_cell_tmp rfl B9 rfl Tryz.underlying27 (by kernel_rfl) rfl ?_
  exact RetT.none (FR.out.away g9 (by omega)).out
 | true =>
  rw [if_pos rfl] at HQ
  rw [HQ.out]
  go_enter Tryz.func90,Tryz.ntmps90
  go_wp2_with (first|(refine wpList_load_blk rfl 24 (.tmp 7) rfl w.heap.size 0 rfl _ #[.int .i64 a.h,.int .i64 a.v,.int .i64 a.c,.slice A n cap] #[.int .i64 a.h,.int .i64 a.v,.int .i64 a.c] _ BA.out Tryz.underlying24 rfl (by kernel_rfl) rfl ?_)|(go_at_call 23;refine (EL.out _).mono ?_;rintro e wa ⟨rfl,hb⟩;replace FR:=zH (FR.out.fut hb);replace BA:=zH (BA.out.fut hb);replace BN:=zH (BN.out.fut hb);replace BR:=zH (BR.out.fut hb);clear hb;clear c3;have c3:=BA.out.cell 3)|(refine wpList_load_blk rfl 42 (.tmp 20) rfl w1.heap.size 11 rfl _ (nN d.kind d.a d.b d.k d.s d.p d.out d.za d.zb W nw cw B nb cb d.qm d.qs d.qz d.rm d.rs d.rz d.lo d.hi) #[.int .i32 d.qm,.int .i64 d.qs,.int .i8 d.qz] _ BN.out Tryz.underlying42 rfl (by kernel_rfl) rfl ?_)|(go_at_call 73;refine (QR.out _).mono ?_;rintro e wb ⟨rfl,hb⟩;replace FR:=zH (FR.out.fut hb);replace BA:=zH (BA.out.fut hb);replace BN:=zH (BN.out.fut hb);replace BR:=zH (BR.out.fut hb);clear hb))
  have fd:Below w.heap.size w wb.drew:=FR.out.out.drew
  refine wp_region_T (fun w'=>w'.cell? ⟨w.heap.size,3,none⟩=some (.slice A n cap)∧w'.cell? ⟨w1.heap.size,17,none⟩=some (.int .i8 d.lo)∧w'.cell? ⟨w1.heap.size,18,none⟩=some (.int .i8 d.hi)∧Blk w' w.heap.size 78 #[.int .i64 a.h,.int .i64 a.v,.int .i64 a.c,.slice A n cap]∧Blk w' w1.heap.size 44 (nN d.kind d.a d.b d.k d.s d.p d.out d.za d.zb W nw cw B nb cb d.qm d.qs d.qz d.rm d.rs d.rz d.lo d.hi)∧Below wb.drew.heap.size wb.drew w') 12 (by kernel_rfl) ?_ (fun hS=>?_)
  ·exact ⟨BA.out.drew.cell 3,BN.out.drew.cell 17,BN.out.drew.cell 18,BA.out.drew,BN.out.drew,Below.refl _ _⟩
  refine kT 0 rfl hS ?_
  try simp only [pX]
  refine tkT 1 rfl (yieldsIf_load_blk (by rfl) 24 (.tmp 25) rfl w.heap.size 0 rfl _ #[.int .i64 a.h,.int .i64 a.v,.int .i64 a.c,.slice A n cap] #[.int .i64 a.h,.int .i64 a.v,.int .i64 a.c] _ (fun w hs=>hs.2.2.2.1) Tryz.underlying24 rfl (by kernel_rfl) rfl) hS ?_
  try simp only [pX]
  refine kT 2 rfl hS ?_
  try simp only [pX]
  refine kT 3 rfl hS ?_
  try simp only [pX]
  refine kT 4 rfl hS ?_
  try simp only [pX]
  refine tkT 5 rfl (yieldsIf_load_blk (by rfl) 42 (.tmp 29) rfl w1.heap.size 11 rfl _ (nN d.kind d.a d.b d.k d.s d.p d.out d.za d.zb W nw cw B nb cb d.qm d.qs d.qz d.rm d.rs d.rz d.lo d.hi) #[.int .i32 d.qm,.int .i64 d.qs,.int .i8 d.qz] _ (fun w hs=>hs.2.2.2.2.1) Tryz.underlying42 rfl (by kernel_rfl) rfl) hS ?_
  try simp only [pX]
  refine kT 6 rfl hS ?_
  try simp only [pX]
  refine kT 7 rfl hS ?_
  try simp only [pX]
  refine kT 8 rfl hS ?_
  try simp only [pX]
  refine kT 9 rfl hS ?_
  try simp only [pX]
  refine wpAnyT_one (i:=10) (by kernel_rfl) rfl rfl (fun K hK=>?_)
  go_simp
  refine (fixAll_any A n cap a.data d.qm d.qs d.qz d.lo d.hi _ ((Old.now HA.out).fut fd).all (by omega) HD.out.qm HD.out.qz HD.out.lo HD.out.hi QQ.out).mono ?_;rintro e wm ⟨RA,rn,rc,rfl,rs,hb⟩
  refine hK.out _ _ ?_ (fun hS=>?_)
  ·exact ⟨(by first|exact cell_later hb hS.1|exact Blk.later hS.1 hb),(by first|exact cell_later hb hS.2.1|exact Blk.later hS.2.1 hb),(by first|exact cell_later hb hS.2.2.1|exact Blk.later hS.2.2.1 hb),(by first|exact cell_later hb hS.2.2.2.1|exact Blk.later hS.2.2.2.1 hb),(by first|exact cell_later hb hS.2.2.2.2.1|exact Blk.later hS.2.2.2.2.1 hb),(by first|exact below_later hb hS.2.2.2.2.2|exact grown_below hS.2.2.2.2.2 hb)⟩
  clear hK K
  try simp only [pX]
  refine kT 11 rfl hS ?_
  try simp only [pX]
  refine wpAnyT_tail _ _ rfl rfl (by kernel_rfl) ?_
  have kd:=(show Below wb.heap.size wb wb.drew from (Below.refl _ _).drew).trans hb
  have RS:=zH (show New wb (tInt .i8) wm RA rn rc (allQ a.data d.qm d.qs d.qz d.lo d.hi) from ⟨rs⟩)
  have BR5:=zH (BR.out.fut kd)
  replace FR:=zH (FR.out.fut kd)
  have lbr:=BR.out.lt
  clear hS hb rs kd
  go_wp2_with (refine sB 27 (.tmp 4) (.tmp 36) w2.heap.size #[.int .i64 a.h,.int .i64 a.v,.int .i64 a.c,.slice RA rn rc] BR5.out ?_;intro w9 B9 g9)
  refine ret_cell_tmp rfl B9 rfl Tryz.underlying27 (by kernel_rfl) rfl ?_
  exact ⟨RA,rn,rc,rfl,(RS.out.away g9 lbr).out.more (bin_more (by omega) (Nat.le_refl _)),(FR.out.away g9 (by omega)).out⟩
end Go.Proofs.YtjkmjpjknmghlaaGreat
namespace Go.Proofs.YtjkmjpjknmghlaaGreat
open Go.RowKit Go.ChangeShapes Go.WideShapes Fx
set_option maxRecDepth 100000
set_option maxHeartbeats 8000000
theorem ret_arr_tmp {P:Program} {fn:Func} {R:Ending → World → Prop} {a:Act} {w:World} {g:Nat} {e ty el:TypeId} {n:Nat} {cs:Array Value} {p u:Tmp} (h:fn.results=#[.cell p ty,.tmp u]) (hb:Blk w g e cs) (hp:a.tmps.getD p undef=.pointer (some ⟨g,0,none⟩)) (hu:P.underlying ty=some (.array n el)) (hi:(P.info? ty).map (·.size)=some cs.size) (hd:a.defers=[])
  (hR:R (.returned (.tuple #[.agg cs,a.tmps.getD u undef])) w):bodyPost P fn R .ret a w:=by
 refine bodyPost_ret (v:=.tuple #[.agg cs,a.tmps.getD u undef]) ?_ hd hR
 rw [results_cell_tmp h,hp,run_asAddr_ptr,Result.andThen_ok,run_loadVar_row w g e ty cs (0,0) (.array n el) hb.heap hu rfl hi,Result.andThen_ok]
def tabC (f:Nat → Int) (k:Nat):Array Value:=(Array.range 256).map fun i=>.int .i8 (if i < k then f i else 0)
theorem tabC_size (f:Nat → Int) (k:Nat):(tabC f k).size=256:=by simp [tabC]
theorem tabC_at (f:Nat → Int) (k i:Nat) (h:i < 256):(tabC f k)[i]?=some (.int .i8 (if i < k then f i else 0)):=by
 unfold tabC
 rw [Array.getElem?_map,Array.getElem?_range,if_pos h];rfl
theorem tabC_zero (f:Nat → Int):Tryz.zeroCells116=tabC f 0:=by
 have e:tabC f 0=tabC (fun _=>0) 0:=by
  unfold tabC
  congr 1
 rw [e]
 show Tryz.zeroCells116=tabC (fun _=>0) 0
 kernel_rfl
theorem tabC_set (f:Nat → Int) (k:Nat) (h:k < 256):(tabC f (k+1)).toList=(tabC f k).toList.take k ++ [.int .i8 (f k)] ++ (tabC f k).toList.drop (k+1):=by
 apply List.ext_getElem?
 intro i
 rw [List.append_assoc]
 by_cases h1:i < k
 ·rw [List.getElem?_append_left (by simp [tabC_size];omega),List.getElem?_take,if_pos h1,Array.getElem?_toList,Array.getElem?_toList,tabC_at _ _ _ (by omega),tabC_at _ _ _ (by omega),if_pos (by omega),if_pos h1]
 ·rw [List.getElem?_append_right (by simp [tabC_size];omega)]
  simp only [List.length_take,Array.length_toList,tabC_size]
  rw [Nat.min_eq_left (by omega)]
  by_cases h2:i=k
  ·subst h2
   rw [Nat.sub_self,Array.getElem?_toList,tabC_at _ _ _ h,if_pos (by omega)]
   rfl
  ·obtain ⟨j,hj⟩:∃ j,i - k=j+1:=⟨i - k - 1,by omega⟩
   rw [hj]
   show _=([] ++ (tabC f k).toList.drop (k+1))[j]?
   rw [List.nil_append,List.getElem?_drop,Array.getElem?_toList,Array.getElem?_toList,show k+1+j=i by omega]
   by_cases h3:i < 256
   ·rw [tabC_at _ _ _ h3,tabC_at _ _ _ h3,if_neg (by omega),if_neg (by omega)]
   ·rw [Array.getElem?_eq_none (by rw [tabC_size];omega),Array.getElem?_eq_none (by rw [tabC_size];omega)]
theorem tabC_one (f:Nat → Int) (k:Nat):(tabC f k).all (·.oneCell')=true:=by
 unfold tabC
 rw [Array.all_eq_true]
 intro i hi
 simp [Value.oneCell']
def actF (d:Node) (i:Nat):Int:=oneV d ((i:Int) - 128)
theorem actTable_any (d:Node) (W:Option Addr) (nw cw:Nat) (B:Option Addr) (nb cb:Nat) (w:World) (hd:NodeIn d) :
  Calls Tryz.prog 85 #[.agg (nN d.kind d.a d.b d.k d.s d.p d.out d.za d.zb W nw cw B nb cb d.qm d.qs d.qz d.rm d.rs d.rz d.lo d.hi)] w fun e w'=>(∃ k:Nat,e=.returned (.tuple #[.agg (tabC (actF d) k),.int .i64 (if quantOk d.qm d.qs=true then 0 else 7)])∧(quantOk d.qm d.qs=true → k=256))∧Below w.heap.size w w':=by
 have QR:=zH (fun w=>fixRight_any d.qm d.qs d.qz w)
 have HD:=zH hd
 have FR:=zH (Far.refl w)
 obtain ⟨w1,hw_w1,BN,k_w1⟩:=nB w (nN d.kind d.a d.b d.k d.s d.p d.out d.za d.zb W nw cw B nb cb d.qm d.qs d.qz d.rm d.rs d.rz d.lo d.hi) 44
 replace FR:=zH (FR.out.fut k_w1)
 clear k_w1
 obtain ⟨w2,hw_w2⟩:∃ x,w1.alloc (.cells Tryz.zeroCells116 116)=x:=⟨_,rfl⟩
 have k2:Below w1.heap.size w1 w2:=by rw [← hw_w2];exact (Below.refl _ _).alloc (Nat.le_refl _) _
 have BR:=zH (show Blk w2 w1.heap.size 116 (tabC (actF d) 0) by rw [← hw_w2,tabC_zero (actF d)];exact Blk.now _ _ _ _ rfl)
 replace FR:=zH (FR.out.fut k2)
 replace BN:=zH (BN.out.fut k2)
 obtain ⟨w3,hw_w3⟩:∃ x,w2.alloc (.cells Tryz.zeroCells116 116)=x:=⟨_,rfl⟩
 have k3:Below w2.heap.size w2 w3:=by rw [← hw_w3];exact (Below.refl _ _).alloc (Nat.le_refl _) _
 have BT:=zH (show Blk w3 w2.heap.size 116 (tabC (actF d) 0) by rw [← hw_w3,tabC_zero (actF d)];exact Blk.now _ _ _ _ rfl)
 replace FR:=zH (FR.out.fut k3)
 replace BN:=zH (BN.out.fut k3)
 replace BR:=zH (BR.out.fut k3)
 have l1:w.heap.size < w1.heap.size:=by rw [← hw_w1];simp
 have l2:w1.heap.size < w2.heap.size:=by rw [← hw_w2];simp
 obtain ⟨q,hq⟩:∃ q,quantOk d.qm d.qs=q:=⟨_,rfl⟩
 rw [hq] at QR ⊢
 clear hd hq k2 k3
 cases q with
 | false =>
  go_enter Tryz.func85,Tryz.ntmps85
  go_wp2_with (first|(refine wpList_load_blk rfl 42 (.tmp 6) rfl w.heap.size 11 rfl _ (nN d.kind d.a d.b d.k d.s d.p d.out d.za d.zb W nw cw B nb cb d.qm d.qs d.qz d.rm d.rs d.rz d.lo d.hi) #[.int .i32 d.qm,.int .i64 d.qs,.int .i8 d.qz] _ BN.out Tryz.underlying42 rfl (by kernel_rfl) rfl ?_)|(go_at_call 73;refine (QR.out _).mono ?_;rintro e wb ⟨rfl,hb⟩;replace FR:=zH (FR.out.fut hb);replace BT:=zH (BT.out.fut hb);replace BR:=zH (BR.out.fut hb);clear hb)|(refine wpList_load_blk rfl 116 (.tmp 4) rfl w2.heap.size 0 rfl _ (tabC (actF d) 0) (tabC (actF d) 0) _ BT.out Tryz.underlying116 rfl (by rw [tabC_size];kernel_rfl) (by rw [List.drop_zero,List.take_of_length_le (by simp)]) ?_)|(refine wpList_store_all rfl 116 (.tmp 2) (.tmp 10) rfl w1.heap.size (tabC (actF d) 0) rfl rfl _ (tabC (actF d) 0) BR.out (by simp [tabC_size]) (by rw [tabC_size];kernel_rfl) (tabC_one _ _) ?_;intro w9 B9 g9))
  refine ret_arr_tmp rfl B9 rfl Tryz.underlying116 (by rw [tabC_size];kernel_rfl) rfl ?_
  exact ⟨⟨0,rfl⟩,(FR.out.away g9 (by omega)).out⟩
 | true =>
  go_enter Tryz.func85,Tryz.ntmps85
  go_wp2_with (first|(refine wpList_load_blk rfl 42 (.tmp 6) rfl w.heap.size 11 rfl _ (nN d.kind d.a d.b d.k d.s d.p d.out d.za d.zb W nw cw B nb cb d.qm d.qs d.qz d.rm d.rs d.rz d.lo d.hi) #[.int .i32 d.qm,.int .i64 d.qs,.int .i8 d.qz] _ BN.out Tryz.underlying42 rfl (by kernel_rfl) rfl ?_)|(go_at_call 73;refine (QR.out _).mono ?_;rintro e wb ⟨rfl,hb⟩;replace FR:=zH (FR.out.fut hb);replace BN:=zH (BN.out.fut hb);replace BT:=zH (BT.out.fut hb);replace BR:=zH (BR.out.fut hb);clear hb))
  clear hw_w1 hw_w2 hw_w3
  go_loopw [11] (fun ii wr=>∃ k:Nat,k≤256∧ii=.int .i64 k∧Far w wr∧Blk wr w.heap.size 44 (nN d.kind d.a d.b d.k d.s d.p d.out d.za d.zb W nw cw B nb cb d.qm d.qs d.qz d.rm d.rs d.rz d.lo d.hi)∧Blk wr w1.heap.size 116 (tabC (actF d) 0)∧Blk wr w2.heap.size 116 (tabC (actF d) k)) (fun ii _=>256 - (intOf ii).toNat)
  case atStart=>exact ⟨0,Nat.zero_le _,rfl,FR.out,BN.out,BR.out,BT.out⟩
  case round =>
   obtain ⟨k,hk,rfl,hf,hbn,hbr,hbt⟩:=hrel
   clear FR BN BR BT
   have FR:=zH hf
   have BN:=zH hbn
   have BR:=zH hbr
   have BT:=zH hbt
   clear hf hbn hbr hbt
   by_cases hlt:k < 256
   ·have p1:(k:Int) < 256:=by omega
    have ew:IntKind.i8.wrap ((k:Int) - 128)=(k:Int) - 128:=by have:=w8_eq ((k:Int) - 128);unfold w8 at this;rw [this];omega
    have OV:=zH (fun w=>actOne_any ((k:Int) - 128) d W nw cw B nb cb w (by rw [inK_i8];omega) HD.out)
    have SF:=zH (show oneV d ((k:Int) - 128)=actF d k from rfl)
    rw [SF.out] at OV
    have TS:=zH (tabC_set (actF d) k hlt)
    obtain ⟨v,hv⟩:∃ v,actF d k=v:=⟨_,rfl⟩
    rw [hv] at OV TS
    clear hv
    go_wp2_with (first|(refine lB 44 (.tmp 1) w.heap.size BN.out Tryz.underlying44 ?_)|(go_at_call 116;refine (OV.out _).mono ?_;rintro e wb ⟨rfl,hb⟩;replace FR:=zH (FR.out.fut hb);replace BN:=zH (BN.out.fut hb);replace BT:=zH (BT.out.fut hb);replace BR:=zH (BR.out.fut hb);clear hb)|(refine wpList_store_one rfl 39 (.tmp 20) (.tmp 19) rfl w2.heap.size k (.int .i8 v) rfl rfl rfl rfl _ (tabC (actF d) k) (tabC (actF d) (k+1)) BT.out (by rw [tabC_size];exact hlt) (by kernel_rfl) TS.out ?_;intro w9 B9 g9))
    exact ⟨⟨k+1,by omega,by go_num,FR.out.away g9 (by omega),BN.out.away g9 (.inl (by omega)),BR.out.away g9 (.inl (by omega)),B9⟩,by simp [intOf];omega⟩
   ·obtain rfl:k=256:=by omega
    go_wp2_with (first|(refine wpList_load_blk rfl 116 (.tmp 4) rfl w2.heap.size 0 rfl _ (tabC (actF d) 256) (tabC (actF d) 256) _ BT.out Tryz.underlying116 rfl (by rw [tabC_size];kernel_rfl) (by rw [List.drop_zero,List.take_of_length_le (by simp)]) ?_)|(refine wpList_store_all rfl 116 (.tmp 2) (.tmp 22) rfl w1.heap.size (tabC (actF d) 256) rfl rfl _ (tabC (actF d) 0) BR.out (by simp [tabC_size]) (by rw [tabC_size];kernel_rfl) (tabC_one _ _) ?_;intro w9 B9 g9))
    refine ret_arr_tmp rfl B9 rfl Tryz.underlying116 (by rw [tabC_size];kernel_rfl) rfl ?_
    exact ⟨rfl,(FR.out.away g9 (by omega)).out⟩
end Go.Proofs.YtjkmjpjknmghlaaGreat
