import Derived.Test.YtppcbmpiphhphaaGreatDoorProg
import Derived.KernelRfl
import Derived.Test.YtppcbmpiphhphaaGreatDoorQU10
namespace Go.Proofs.YtppcbmpiphhphaaGreatDoor
open Go Pm
theorem tb_tk_0 : tk Tryz.prog 0 = TK.other := by kernel_rfl
theorem tb_loadK_0 : loadK Tryz.prog 0 = some (false, 1) := by kernel_rfl
theorem tb_zeroK_0 : zeroK Tryz.prog 0 = some [Value.tuple { toList := [] }] := by kernel_rfl
theorem tb_bytesK_0 : bytesK Tryz.prog 0 = some 0 := by kernel_rfl
theorem tb_sliceElem_0 : sliceElem Tryz.prog 0 = none := by kernel_rfl
theorem tb_arrElem_0 : arrElem Tryz.prog 0 = none := by kernel_rfl
theorem tb_byteEl_0 : byteEl Tryz.prog 0 = false := by kernel_rfl
theorem tb_tk_1 : tk Tryz.prog 1 = TK.other := by kernel_rfl
theorem tb_loadK_1 : loadK Tryz.prog 1 = some (false, 1) := by kernel_rfl
theorem tb_zeroK_1 : zeroK Tryz.prog 1 = some [Value.nilFunc] := by kernel_rfl
theorem tb_bytesK_1 : bytesK Tryz.prog 1 = some 8 := by kernel_rfl
theorem tb_sliceElem_1 : sliceElem Tryz.prog 1 = none := by kernel_rfl
theorem tb_arrElem_1 : arrElem Tryz.prog 1 = none := by kernel_rfl
theorem tb_byteEl_1 : byteEl Tryz.prog 1 = false := by kernel_rfl
theorem tb_tk_2 : tk Tryz.prog 2 = TK.int IntKind.i64 := by kernel_rfl
theorem tb_loadK_2 : loadK Tryz.prog 2 = some (false, 1) := by kernel_rfl
theorem tb_zeroK_2 : zeroK Tryz.prog 2 = some [Value.int IntKind.i64 0] := by kernel_rfl
theorem tb_bytesK_2 : bytesK Tryz.prog 2 = some 8 := by kernel_rfl
theorem tb_byteEl_2 : byteEl Tryz.prog 2 = false := by kernel_rfl
theorem tb_tk_3 : tk Tryz.prog 3 = TK.int IntKind.i64 := by kernel_rfl
theorem tb_loadK_3 : loadK Tryz.prog 3 = some (false, 1) := by kernel_rfl
theorem tb_zeroK_3 : zeroK Tryz.prog 3 = some [Value.int IntKind.i64 0] := by kernel_rfl
theorem tb_bytesK_3 : bytesK Tryz.prog 3 = some 8 := by kernel_rfl
theorem tb_byteEl_3 : byteEl Tryz.prog 3 = false := by kernel_rfl
theorem tb_tk_4 : tk Tryz.prog 4 = TK.bool := by kernel_rfl
theorem tb_loadK_4 : loadK Tryz.prog 4 = some (false, 1) := by kernel_rfl
theorem tb_zeroK_4 : zeroK Tryz.prog 4 = some [Value.bool false] := by kernel_rfl
theorem tb_bytesK_4 : bytesK Tryz.prog 4 = some 1 := by kernel_rfl
theorem tb_byteEl_4 : byteEl Tryz.prog 4 = false := by kernel_rfl
theorem tb_tk_5 : tk Tryz.prog 5 = TK.int IntKind.u8 := by kernel_rfl
theorem tb_loadK_5 : loadK Tryz.prog 5 = some (false, 1) := by kernel_rfl
theorem tb_zeroK_5 : zeroK Tryz.prog 5 = some [Value.int IntKind.u8 0] := by kernel_rfl
theorem tb_bytesK_5 : bytesK Tryz.prog 5 = some 1 := by kernel_rfl
theorem tb_byteEl_5 : byteEl Tryz.prog 5 = false := by kernel_rfl
theorem tb_tk_6 : tk Tryz.prog 6 = TK.int IntKind.u8 := by kernel_rfl
theorem tb_loadK_6 : loadK Tryz.prog 6 = some (false, 1) := by kernel_rfl
theorem tb_zeroK_6 : zeroK Tryz.prog 6 = some [Value.int IntKind.u8 0] := by kernel_rfl
theorem tb_bytesK_6 : bytesK Tryz.prog 6 = some 1 := by kernel_rfl
theorem tb_byteEl_6 : byteEl Tryz.prog 6 = false := by kernel_rfl
theorem tb_tk_7 : tk Tryz.prog 7 = TK.other := by kernel_rfl
theorem tb_loadK_7 : loadK Tryz.prog 7 = some (true, 4) := by kernel_rfl
theorem tb_zeroK_7 : zeroK Tryz.prog 7 = some [Value.int IntKind.i64 0, Value.int IntKind.i64 0, Value.bool false, Value.int IntKind.u8 0] := by kernel_rfl
theorem tb_bytesK_7 : bytesK Tryz.prog 7 = some 24 := by kernel_rfl
theorem tb_sliceElem_7 : sliceElem Tryz.prog 7 = none := by kernel_rfl
theorem tb_arrElem_7 : arrElem Tryz.prog 7 = none := by kernel_rfl
theorem tb_placesK_7 : placesK Tryz.prog 7 = some [(0, 1), (1, 1), (2, 1), (3, 1)] := by kernel_rfl
theorem tb_byteEl_7 : byteEl Tryz.prog 7 = false := by kernel_rfl
theorem tb_flatK_7 : flatK Tryz.prog 7 = some [TypeDesc.int IntKind.i64, TypeDesc.int IntKind.i64, TypeDesc.bool, TypeDesc.int IntKind.u8] := by kernel_rfl
theorem tb_fieldK_7_0 : fieldK Tryz.prog 7 0 = some (0, false, 1) := by kernel_rfl
theorem tb_fieldK_7_1 : fieldK Tryz.prog 7 1 = some (1, false, 1) := by kernel_rfl
theorem tb_fieldK_7_2 : fieldK Tryz.prog 7 2 = some (2, false, 1) := by kernel_rfl
theorem tb_fieldK_7_3 : fieldK Tryz.prog 7 3 = some (3, false, 1) := by kernel_rfl
theorem tb_tk_8 : tk Tryz.prog 8 = TK.other := by kernel_rfl
theorem tb_loadK_8 : loadK Tryz.prog 8 = some (true, 4) := by kernel_rfl
theorem tb_zeroK_8 : zeroK Tryz.prog 8 = some [Value.int IntKind.i64 0, Value.int IntKind.i64 0, Value.bool false, Value.int IntKind.u8 0] := by kernel_rfl
theorem tb_bytesK_8 : bytesK Tryz.prog 8 = some 24 := by kernel_rfl
theorem tb_sliceElem_8 : sliceElem Tryz.prog 8 = none := by kernel_rfl
theorem tb_arrElem_8 : arrElem Tryz.prog 8 = none := by kernel_rfl
theorem tb_placesK_8 : placesK Tryz.prog 8 = some [(0, 1), (1, 1), (2, 1), (3, 1)] := by kernel_rfl
theorem tb_byteEl_8 : byteEl Tryz.prog 8 = false := by kernel_rfl
theorem tb_flatK_8 : flatK Tryz.prog 8 = some [TypeDesc.int IntKind.i64, TypeDesc.int IntKind.i64, TypeDesc.bool, TypeDesc.int IntKind.u8] := by kernel_rfl
theorem tb_fieldK_8_0 : fieldK Tryz.prog 8 0 = some (0, false, 1) := by kernel_rfl
theorem tb_fieldK_8_1 : fieldK Tryz.prog 8 1 = some (1, false, 1) := by kernel_rfl
theorem tb_fieldK_8_2 : fieldK Tryz.prog 8 2 = some (2, false, 1) := by kernel_rfl
theorem tb_fieldK_8_3 : fieldK Tryz.prog 8 3 = some (3, false, 1) := by kernel_rfl
theorem tb_tk_9 : tk Tryz.prog 9 = TK.str := by kernel_rfl
theorem tb_loadK_9 : loadK Tryz.prog 9 = some (false, 1) := by kernel_rfl
theorem tb_zeroK_9 : zeroK Tryz.prog 9 = some [Value.string ByteArray.empty] := by kernel_rfl
theorem tb_bytesK_9 : bytesK Tryz.prog 9 = some 16 := by kernel_rfl
theorem tb_byteEl_9 : byteEl Tryz.prog 9 = false := by kernel_rfl
theorem tb_arrLoad_9 : arrLoad Tryz.prog 9 = none := by kernel_rfl
theorem tb_tk_10 : tk Tryz.prog 10 = TK.str := by kernel_rfl
theorem tb_loadK_10 : loadK Tryz.prog 10 = some (false, 1) := by kernel_rfl
theorem tb_zeroK_10 : zeroK Tryz.prog 10 = some [Value.string ByteArray.empty] := by kernel_rfl
theorem tb_bytesK_10 : bytesK Tryz.prog 10 = some 16 := by kernel_rfl
theorem tb_byteEl_10 : byteEl Tryz.prog 10 = false := by kernel_rfl
theorem tb_arrLoad_10 : arrLoad Tryz.prog 10 = none := by kernel_rfl
theorem tb_tk_11 : tk Tryz.prog 11 = TK.str := by kernel_rfl
theorem tb_loadK_11 : loadK Tryz.prog 11 = some (false, 1) := by kernel_rfl
theorem tb_zeroK_11 : zeroK Tryz.prog 11 = some [Value.string ByteArray.empty] := by kernel_rfl
theorem tb_bytesK_11 : bytesK Tryz.prog 11 = some 16 := by kernel_rfl
theorem tb_byteEl_11 : byteEl Tryz.prog 11 = false := by kernel_rfl
theorem tb_arrLoad_11 : arrLoad Tryz.prog 11 = none := by kernel_rfl
theorem tb_tk_12 : tk Tryz.prog 12 = TK.int IntKind.u64 := by kernel_rfl
theorem tb_loadK_12 : loadK Tryz.prog 12 = some (false, 1) := by kernel_rfl
theorem tb_zeroK_12 : zeroK Tryz.prog 12 = some [Value.int IntKind.u64 0] := by kernel_rfl
theorem tb_bytesK_12 : bytesK Tryz.prog 12 = some 8 := by kernel_rfl
theorem tb_byteEl_12 : byteEl Tryz.prog 12 = false := by kernel_rfl
theorem tb_tk_13 : tk Tryz.prog 13 = TK.other := by kernel_rfl
theorem tb_loadK_13 : loadK Tryz.prog 13 = some (true, 2) := by kernel_rfl
theorem tb_zeroK_13 : zeroK Tryz.prog 13 = some [Value.string ByteArray.empty, Value.int IntKind.u64 0] := by kernel_rfl
theorem tb_bytesK_13 : bytesK Tryz.prog 13 = some 24 := by kernel_rfl
theorem tb_sliceElem_13 : sliceElem Tryz.prog 13 = none := by kernel_rfl
theorem tb_arrElem_13 : arrElem Tryz.prog 13 = none := by kernel_rfl
theorem tb_placesK_13 : placesK Tryz.prog 13 = some [(0, 1), (1, 1)] := by kernel_rfl
theorem tb_byteEl_13 : byteEl Tryz.prog 13 = false := by kernel_rfl
theorem tb_fieldK_13_0 : fieldK Tryz.prog 13 0 = some (0, false, 1) := by kernel_rfl
theorem tb_fieldK_13_1 : fieldK Tryz.prog 13 1 = some (1, false, 1) := by kernel_rfl
theorem tb_tk_14 : tk Tryz.prog 14 = TK.other := by kernel_rfl
theorem tb_loadK_14 : loadK Tryz.prog 14 = some (true, 2) := by kernel_rfl
theorem tb_zeroK_14 : zeroK Tryz.prog 14 = some [Value.string ByteArray.empty, Value.int IntKind.u64 0] := by kernel_rfl
theorem tb_bytesK_14 : bytesK Tryz.prog 14 = some 24 := by kernel_rfl
theorem tb_sliceElem_14 : sliceElem Tryz.prog 14 = none := by kernel_rfl
theorem tb_arrElem_14 : arrElem Tryz.prog 14 = none := by kernel_rfl
theorem tb_placesK_14 : placesK Tryz.prog 14 = some [(0, 1), (1, 1)] := by kernel_rfl
theorem tb_byteEl_14 : byteEl Tryz.prog 14 = false := by kernel_rfl
theorem tb_fieldK_14_0 : fieldK Tryz.prog 14 0 = some (0, false, 1) := by kernel_rfl
theorem tb_fieldK_14_1 : fieldK Tryz.prog 14 1 = some (1, false, 1) := by kernel_rfl
theorem tb_tk_15 : tk Tryz.prog 15 = TK.ptr := by kernel_rfl
theorem tb_loadK_15 : loadK Tryz.prog 15 = some (false, 1) := by kernel_rfl
theorem tb_zeroK_15 : zeroK Tryz.prog 15 = some [Value.pointer none] := by kernel_rfl
theorem tb_bytesK_15 : bytesK Tryz.prog 15 = some 8 := by kernel_rfl
theorem tb_sliceElem_15 : sliceElem Tryz.prog 15 = none := by kernel_rfl
theorem tb_arrElem_15 : arrElem Tryz.prog 15 = none := by kernel_rfl
theorem tb_byteEl_15 : byteEl Tryz.prog 15 = false := by kernel_rfl
theorem tb_tk_16 : tk Tryz.prog 16 = TK.ptr := by kernel_rfl
theorem tb_loadK_16 : loadK Tryz.prog 16 = some (false, 1) := by kernel_rfl
theorem tb_zeroK_16 : zeroK Tryz.prog 16 = some [Value.pointer none] := by kernel_rfl
theorem tb_bytesK_16 : bytesK Tryz.prog 16 = some 8 := by kernel_rfl
theorem tb_sliceElem_16 : sliceElem Tryz.prog 16 = none := by kernel_rfl
theorem tb_arrElem_16 : arrElem Tryz.prog 16 = none := by kernel_rfl
theorem tb_byteEl_16 : byteEl Tryz.prog 16 = false := by kernel_rfl
theorem tb_tk_17 : tk Tryz.prog 17 = TK.ptr := by kernel_rfl
theorem tb_loadK_17 : loadK Tryz.prog 17 = some (false, 1) := by kernel_rfl
theorem tb_zeroK_17 : zeroK Tryz.prog 17 = some [Value.pointer none] := by kernel_rfl
theorem tb_bytesK_17 : bytesK Tryz.prog 17 = some 8 := by kernel_rfl
theorem tb_sliceElem_17 : sliceElem Tryz.prog 17 = none := by kernel_rfl
theorem tb_arrElem_17 : arrElem Tryz.prog 17 = none := by kernel_rfl
theorem tb_byteEl_17 : byteEl Tryz.prog 17 = false := by kernel_rfl
theorem tb_tk_18 : tk Tryz.prog 18 = TK.other := by kernel_rfl
theorem tb_loadK_18 : loadK Tryz.prog 18 = some (true, 1) := by kernel_rfl
theorem tb_zeroK_18 : zeroK Tryz.prog 18 = some [Value.pointer none] := by kernel_rfl
theorem tb_bytesK_18 : bytesK Tryz.prog 18 = some 8 := by kernel_rfl
theorem tb_sliceElem_18 : sliceElem Tryz.prog 18 = none := by kernel_rfl
theorem tb_arrElem_18 : arrElem Tryz.prog 18 = none := by kernel_rfl
theorem tb_placesK_18 : placesK Tryz.prog 18 = some [(0, 1)] := by kernel_rfl
theorem tb_byteEl_18 : byteEl Tryz.prog 18 = false := by kernel_rfl
theorem tb_fieldK_18_0 : fieldK Tryz.prog 18 0 = some (0, false, 1) := by kernel_rfl
theorem tb_tk_19 : tk Tryz.prog 19 = TK.other := by kernel_rfl
theorem tb_loadK_19 : loadK Tryz.prog 19 = some (true, 1) := by kernel_rfl
theorem tb_zeroK_19 : zeroK Tryz.prog 19 = some [Value.pointer none] := by kernel_rfl
theorem tb_bytesK_19 : bytesK Tryz.prog 19 = some 8 := by kernel_rfl
theorem tb_sliceElem_19 : sliceElem Tryz.prog 19 = none := by kernel_rfl
theorem tb_arrElem_19 : arrElem Tryz.prog 19 = none := by kernel_rfl
theorem tb_placesK_19 : placesK Tryz.prog 19 = some [(0, 1)] := by kernel_rfl
theorem tb_byteEl_19 : byteEl Tryz.prog 19 = false := by kernel_rfl
theorem tb_fieldK_19_0 : fieldK Tryz.prog 19 0 = some (0, false, 1) := by kernel_rfl
theorem tb_tk_20 : tk Tryz.prog 20 = TK.other := by kernel_rfl
theorem tb_loadK_20 : loadK Tryz.prog 20 = some (false, 1) := by kernel_rfl
theorem tb_zeroK_20 : zeroK Tryz.prog 20 = some [Value.nilIface] := by kernel_rfl
theorem tb_bytesK_20 : bytesK Tryz.prog 20 = some 16 := by kernel_rfl
theorem tb_sliceElem_20 : sliceElem Tryz.prog 20 = none := by kernel_rfl
theorem tb_arrElem_20 : arrElem Tryz.prog 20 = none := by kernel_rfl
theorem tb_byteEl_20 : byteEl Tryz.prog 20 = false := by kernel_rfl
theorem tb_tk_21 : tk Tryz.prog 21 = TK.int IntKind.i32 := by kernel_rfl
theorem tb_loadK_21 : loadK Tryz.prog 21 = some (false, 1) := by kernel_rfl
theorem tb_zeroK_21 : zeroK Tryz.prog 21 = some [Value.int IntKind.i32 0] := by kernel_rfl
theorem tb_bytesK_21 : bytesK Tryz.prog 21 = some 4 := by kernel_rfl
theorem tb_byteEl_21 : byteEl Tryz.prog 21 = false := by kernel_rfl
theorem tb_tk_22 : tk Tryz.prog 22 = TK.slc := by kernel_rfl
theorem tb_loadK_22 : loadK Tryz.prog 22 = some (false, 1) := by kernel_rfl
theorem tb_zeroK_22 : zeroK Tryz.prog 22 = some [Value.slice none 0 0] := by kernel_rfl
theorem tb_bytesK_22 : bytesK Tryz.prog 22 = some 24 := by kernel_rfl
theorem tb_sliceElem_22 : sliceElem Tryz.prog 22 = some (57, 2) := by kernel_rfl
theorem tb_arrElem_22 : arrElem Tryz.prog 22 = none := by kernel_rfl
theorem tb_byteEl_22 : byteEl Tryz.prog 22 = false := by kernel_rfl
theorem tb_tk_23 : tk Tryz.prog 23 = TK.other := by kernel_rfl
theorem tb_loadK_23 : loadK Tryz.prog 23 = some (true, 1) := by kernel_rfl
theorem tb_zeroK_23 : zeroK Tryz.prog 23 = some [Value.slice none 0 0] := by kernel_rfl
theorem tb_bytesK_23 : bytesK Tryz.prog 23 = some 24 := by kernel_rfl
theorem tb_sliceElem_23 : sliceElem Tryz.prog 23 = none := by kernel_rfl
theorem tb_arrElem_23 : arrElem Tryz.prog 23 = none := by kernel_rfl
theorem tb_placesK_23 : placesK Tryz.prog 23 = some [(0, 1)] := by kernel_rfl
theorem tb_byteEl_23 : byteEl Tryz.prog 23 = false := by kernel_rfl
theorem tb_fieldK_23_0 : fieldK Tryz.prog 23 0 = some (0, false, 1) := by kernel_rfl
theorem tb_tk_24 : tk Tryz.prog 24 = TK.other := by kernel_rfl
theorem tb_loadK_24 : loadK Tryz.prog 24 = some (true, 1) := by kernel_rfl
theorem tb_zeroK_24 : zeroK Tryz.prog 24 = some [Value.slice none 0 0] := by kernel_rfl
theorem tb_bytesK_24 : bytesK Tryz.prog 24 = some 24 := by kernel_rfl
theorem tb_sliceElem_24 : sliceElem Tryz.prog 24 = none := by kernel_rfl
theorem tb_arrElem_24 : arrElem Tryz.prog 24 = none := by kernel_rfl
theorem tb_placesK_24 : placesK Tryz.prog 24 = some [(0, 1)] := by kernel_rfl
theorem tb_byteEl_24 : byteEl Tryz.prog 24 = false := by kernel_rfl
theorem tb_fieldK_24_0 : fieldK Tryz.prog 24 0 = some (0, false, 1) := by kernel_rfl
theorem tb_tk_25 : tk Tryz.prog 25 = TK.slc := by kernel_rfl
theorem tb_loadK_25 : loadK Tryz.prog 25 = some (false, 1) := by kernel_rfl
theorem tb_zeroK_25 : zeroK Tryz.prog 25 = some [Value.slice none 0 0] := by kernel_rfl
theorem tb_bytesK_25 : bytesK Tryz.prog 25 = some 24 := by kernel_rfl
theorem tb_sliceElem_25 : sliceElem Tryz.prog 25 = some (62, 6) := by kernel_rfl
theorem tb_arrElem_25 : arrElem Tryz.prog 25 = none := by kernel_rfl
theorem tb_byteEl_25 : byteEl Tryz.prog 25 = false := by kernel_rfl
theorem tb_tk_26 : tk Tryz.prog 26 = TK.slc := by kernel_rfl
theorem tb_loadK_26 : loadK Tryz.prog 26 = some (false, 1) := by kernel_rfl
theorem tb_zeroK_26 : zeroK Tryz.prog 26 = some [Value.slice none 0 0] := by kernel_rfl
theorem tb_bytesK_26 : bytesK Tryz.prog 26 = some 24 := by kernel_rfl
theorem tb_sliceElem_26 : sliceElem Tryz.prog 26 = some (64, 3) := by kernel_rfl
theorem tb_arrElem_26 : arrElem Tryz.prog 26 = none := by kernel_rfl
theorem tb_byteEl_26 : byteEl Tryz.prog 26 = false := by kernel_rfl
theorem tb_tk_27 : tk Tryz.prog 27 = TK.slc := by kernel_rfl
theorem tb_loadK_27 : loadK Tryz.prog 27 = some (false, 1) := by kernel_rfl
theorem tb_zeroK_27 : zeroK Tryz.prog 27 = some [Value.slice none 0 0] := by kernel_rfl
theorem tb_bytesK_27 : bytesK Tryz.prog 27 = some 24 := by kernel_rfl
theorem tb_sliceElem_27 : sliceElem Tryz.prog 27 = some (68, 9) := by kernel_rfl
theorem tb_arrElem_27 : arrElem Tryz.prog 27 = none := by kernel_rfl
theorem tb_byteEl_27 : byteEl Tryz.prog 27 = false := by kernel_rfl
theorem tb_tk_28 : tk Tryz.prog 28 = TK.other := by kernel_rfl
theorem tb_loadK_28 : loadK Tryz.prog 28 = some (true, 2) := by kernel_rfl
theorem tb_zeroK_28 : zeroK Tryz.prog 28 = some [Value.slice none 0 0, Value.slice none 0 0] := by kernel_rfl
theorem tb_bytesK_28 : bytesK Tryz.prog 28 = some 48 := by kernel_rfl
theorem tb_sliceElem_28 : sliceElem Tryz.prog 28 = none := by kernel_rfl
theorem tb_arrElem_28 : arrElem Tryz.prog 28 = none := by kernel_rfl
theorem tb_placesK_28 : placesK Tryz.prog 28 = some [(0, 1), (1, 1)] := by kernel_rfl
theorem tb_byteEl_28 : byteEl Tryz.prog 28 = false := by kernel_rfl
theorem tb_fieldK_28_0 : fieldK Tryz.prog 28 0 = some (0, false, 1) := by kernel_rfl
theorem tb_fieldK_28_1 : fieldK Tryz.prog 28 1 = some (1, false, 1) := by kernel_rfl
theorem tb_tk_29 : tk Tryz.prog 29 = TK.other := by kernel_rfl
theorem tb_loadK_29 : loadK Tryz.prog 29 = some (true, 2) := by kernel_rfl
theorem tb_zeroK_29 : zeroK Tryz.prog 29 = some [Value.slice none 0 0, Value.slice none 0 0] := by kernel_rfl
theorem tb_bytesK_29 : bytesK Tryz.prog 29 = some 48 := by kernel_rfl
theorem tb_sliceElem_29 : sliceElem Tryz.prog 29 = none := by kernel_rfl
theorem tb_arrElem_29 : arrElem Tryz.prog 29 = none := by kernel_rfl
theorem tb_placesK_29 : placesK Tryz.prog 29 = some [(0, 1), (1, 1)] := by kernel_rfl
theorem tb_byteEl_29 : byteEl Tryz.prog 29 = false := by kernel_rfl
theorem tb_fieldK_29_0 : fieldK Tryz.prog 29 0 = some (0, false, 1) := by kernel_rfl
theorem tb_fieldK_29_1 : fieldK Tryz.prog 29 1 = some (1, false, 1) := by kernel_rfl
theorem tb_tk_30 : tk Tryz.prog 30 = TK.slc := by kernel_rfl
theorem tb_loadK_30 : loadK Tryz.prog 30 = some (false, 1) := by kernel_rfl
theorem tb_zeroK_30 : zeroK Tryz.prog 30 = some [Value.slice none 0 0] := by kernel_rfl
theorem tb_bytesK_30 : bytesK Tryz.prog 30 = some 24 := by kernel_rfl
theorem tb_sliceElem_30 : sliceElem Tryz.prog 30 = some (9, 1) := by kernel_rfl
theorem tb_arrElem_30 : arrElem Tryz.prog 30 = none := by kernel_rfl
theorem tb_byteEl_30 : byteEl Tryz.prog 30 = false := by kernel_rfl
theorem tb_tk_31 : tk Tryz.prog 31 = TK.other := by kernel_rfl
theorem tb_loadK_31 : loadK Tryz.prog 31 = some (false, 1) := by kernel_rfl
theorem tb_zeroK_31 : zeroK Tryz.prog 31 = some [Value.nilFunc] := by kernel_rfl
theorem tb_bytesK_31 : bytesK Tryz.prog 31 = some 8 := by kernel_rfl
theorem tb_sliceElem_31 : sliceElem Tryz.prog 31 = none := by kernel_rfl
theorem tb_arrElem_31 : arrElem Tryz.prog 31 = none := by kernel_rfl
theorem tb_byteEl_31 : byteEl Tryz.prog 31 = false := by kernel_rfl
theorem tb_tk_32 : tk Tryz.prog 32 = TK.other := by kernel_rfl
theorem tb_loadK_32 : loadK Tryz.prog 32 = some (false, 1) := by kernel_rfl
theorem tb_zeroK_32 : zeroK Tryz.prog 32 = some [Value.nilFunc] := by kernel_rfl
theorem tb_bytesK_32 : bytesK Tryz.prog 32 = some 8 := by kernel_rfl
theorem tb_sliceElem_32 : sliceElem Tryz.prog 32 = none := by kernel_rfl
theorem tb_arrElem_32 : arrElem Tryz.prog 32 = none := by kernel_rfl
theorem tb_byteEl_32 : byteEl Tryz.prog 32 = false := by kernel_rfl
theorem tb_tk_35 : tk Tryz.prog 35 = TK.other := by kernel_rfl
theorem tb_loadK_35 : loadK Tryz.prog 35 = some (false, 1) := by kernel_rfl
theorem tb_zeroK_35 : zeroK Tryz.prog 35 = some [Value.nilFunc] := by kernel_rfl
theorem tb_bytesK_35 : bytesK Tryz.prog 35 = some 8 := by kernel_rfl
theorem tb_sliceElem_35 : sliceElem Tryz.prog 35 = none := by kernel_rfl
theorem tb_arrElem_35 : arrElem Tryz.prog 35 = none := by kernel_rfl
theorem tb_byteEl_35 : byteEl Tryz.prog 35 = false := by kernel_rfl
theorem tb_tk_36 : tk Tryz.prog 36 = TK.int IntKind.i64 := by kernel_rfl
theorem tb_loadK_36 : loadK Tryz.prog 36 = some (false, 1) := by kernel_rfl
theorem tb_zeroK_36 : zeroK Tryz.prog 36 = some [Value.int IntKind.i64 0] := by kernel_rfl
theorem tb_bytesK_36 : bytesK Tryz.prog 36 = some 8 := by kernel_rfl
theorem tb_byteEl_36 : byteEl Tryz.prog 36 = false := by kernel_rfl
theorem tb_tk_37 : tk Tryz.prog 37 = TK.other := by kernel_rfl
theorem tb_loadK_37 : loadK Tryz.prog 37 = some (false, 1) := by kernel_rfl
theorem tb_zeroK_37 : zeroK Tryz.prog 37 = some [Value.tuple { toList := [Value.slice none 0 0, Value.int IntKind.i64 0] }] := by kernel_rfl
theorem tb_bytesK_37 : bytesK Tryz.prog 37 = some 0 := by kernel_rfl
theorem tb_sliceElem_37 : sliceElem Tryz.prog 37 = none := by kernel_rfl
theorem tb_arrElem_37 : arrElem Tryz.prog 37 = none := by kernel_rfl
theorem tb_byteEl_37 : byteEl Tryz.prog 37 = false := by kernel_rfl
theorem tb_tk_39 : tk Tryz.prog 39 = TK.other := by kernel_rfl
theorem tb_loadK_39 : loadK Tryz.prog 39 = some (false, 1) := by kernel_rfl
theorem tb_zeroK_39 : zeroK Tryz.prog 39 = some [Value.tuple { toList := [Value.slice none 0 0, Value.int IntKind.i64 0] }] := by kernel_rfl
theorem tb_bytesK_39 : bytesK Tryz.prog 39 = some 0 := by kernel_rfl
theorem tb_sliceElem_39 : sliceElem Tryz.prog 39 = none := by kernel_rfl
theorem tb_arrElem_39 : arrElem Tryz.prog 39 = none := by kernel_rfl
theorem tb_byteEl_39 : byteEl Tryz.prog 39 = false := by kernel_rfl
theorem tb_tk_41 : tk Tryz.prog 41 = TK.other := by kernel_rfl
theorem tb_loadK_41 : loadK Tryz.prog 41 = some (false, 1) := by kernel_rfl
theorem tb_zeroK_41 : zeroK Tryz.prog 41 = some [Value.tuple { toList := [Value.slice none 0 0, Value.int IntKind.i64 0] }] := by kernel_rfl
theorem tb_bytesK_41 : bytesK Tryz.prog 41 = some 0 := by kernel_rfl
theorem tb_sliceElem_41 : sliceElem Tryz.prog 41 = none := by kernel_rfl
theorem tb_arrElem_41 : arrElem Tryz.prog 41 = none := by kernel_rfl
theorem tb_byteEl_41 : byteEl Tryz.prog 41 = false := by kernel_rfl
theorem tb_tk_43 : tk Tryz.prog 43 = TK.other := by kernel_rfl
theorem tb_loadK_43 : loadK Tryz.prog 43 = some (false, 1) := by kernel_rfl
theorem tb_zeroK_43 : zeroK Tryz.prog 43 = some [Value.tuple { toList := [Value.slice none 0 0, Value.int IntKind.i64 0] }] := by kernel_rfl
theorem tb_bytesK_43 : bytesK Tryz.prog 43 = some 0 := by kernel_rfl
theorem tb_sliceElem_43 : sliceElem Tryz.prog 43 = none := by kernel_rfl
theorem tb_arrElem_43 : arrElem Tryz.prog 43 = none := by kernel_rfl
theorem tb_byteEl_43 : byteEl Tryz.prog 43 = false := by kernel_rfl
theorem tb_tk_44 : tk Tryz.prog 44 = TK.other := by kernel_rfl
theorem tb_loadK_44 : loadK Tryz.prog 44 = some (false, 1) := by kernel_rfl
theorem tb_zeroK_44 : zeroK Tryz.prog 44 = some [Value.nilFunc] := by kernel_rfl
theorem tb_bytesK_44 : bytesK Tryz.prog 44 = some 8 := by kernel_rfl
theorem tb_sliceElem_44 : sliceElem Tryz.prog 44 = none := by kernel_rfl
theorem tb_arrElem_44 : arrElem Tryz.prog 44 = none := by kernel_rfl
theorem tb_byteEl_44 : byteEl Tryz.prog 44 = false := by kernel_rfl
theorem tb_tk_49 : tk Tryz.prog 49 = TK.other := by kernel_rfl
theorem tb_loadK_49 : loadK Tryz.prog 49 = some (false, 1) := by kernel_rfl
theorem tb_zeroK_49 : zeroK Tryz.prog 49 = some [Value.tuple { toList := [Value.agg { toList := [Value.slice none 0 0, Value.slice none 0 0] }, Value.int IntKind.i64 0] }] := by kernel_rfl
theorem tb_bytesK_49 : bytesK Tryz.prog 49 = some 0 := by kernel_rfl
theorem tb_sliceElem_49 : sliceElem Tryz.prog 49 = none := by kernel_rfl
theorem tb_arrElem_49 : arrElem Tryz.prog 49 = none := by kernel_rfl
theorem tb_byteEl_49 : byteEl Tryz.prog 49 = false := by kernel_rfl
theorem tb_tk_51 : tk Tryz.prog 51 = TK.other := by kernel_rfl
theorem tb_loadK_51 : loadK Tryz.prog 51 = some (false, 1) := by kernel_rfl
theorem tb_zeroK_51 : zeroK Tryz.prog 51 = some [Value.tuple { toList := [Value.agg { toList := [Value.slice none 0 0, Value.slice none 0 0] }, Value.int IntKind.i64 0] }] := by kernel_rfl
theorem tb_bytesK_51 : bytesK Tryz.prog 51 = some 0 := by kernel_rfl
theorem tb_sliceElem_51 : sliceElem Tryz.prog 51 = none := by kernel_rfl
theorem tb_arrElem_51 : arrElem Tryz.prog 51 = none := by kernel_rfl
theorem tb_byteEl_51 : byteEl Tryz.prog 51 = false := by kernel_rfl
theorem tb_tk_55 : tk Tryz.prog 55 = TK.slc := by kernel_rfl
theorem tb_loadK_55 : loadK Tryz.prog 55 = some (false, 1) := by kernel_rfl
theorem tb_zeroK_55 : zeroK Tryz.prog 55 = some [Value.slice none 0 0] := by kernel_rfl
theorem tb_bytesK_55 : bytesK Tryz.prog 55 = some 24 := by kernel_rfl
theorem tb_sliceElem_55 : sliceElem Tryz.prog 55 = some (30, 1) := by kernel_rfl
theorem tb_arrElem_55 : arrElem Tryz.prog 55 = none := by kernel_rfl
theorem tb_byteEl_55 : byteEl Tryz.prog 55 = false := by kernel_rfl
theorem tb_tk_57 : tk Tryz.prog 57 = TK.other := by kernel_rfl
theorem tb_loadK_57 : loadK Tryz.prog 57 = some (true, 2) := by kernel_rfl
theorem tb_zeroK_57 : zeroK Tryz.prog 57 = some [Value.int IntKind.i64 0, Value.slice none 0 0] := by kernel_rfl
theorem tb_bytesK_57 : bytesK Tryz.prog 57 = some 32 := by kernel_rfl
theorem tb_sliceElem_57 : sliceElem Tryz.prog 57 = none := by kernel_rfl
theorem tb_arrElem_57 : arrElem Tryz.prog 57 = none := by kernel_rfl
theorem tb_placesK_57 : placesK Tryz.prog 57 = some [(0, 1), (1, 1)] := by kernel_rfl
theorem tb_byteEl_57 : byteEl Tryz.prog 57 = false := by kernel_rfl
theorem tb_fieldK_57_0 : fieldK Tryz.prog 57 0 = some (0, false, 1) := by kernel_rfl
theorem tb_fieldK_57_1 : fieldK Tryz.prog 57 1 = some (1, false, 1) := by kernel_rfl
theorem tb_tk_60 : tk Tryz.prog 60 = TK.other := by kernel_rfl
theorem tb_loadK_60 : loadK Tryz.prog 60 = some (true, 3) := by kernel_rfl
theorem tb_zeroK_60 : zeroK Tryz.prog 60 = some [Value.int IntKind.i64 0, Value.int IntKind.i64 0, Value.int IntKind.i64 0] := by kernel_rfl
theorem tb_bytesK_60 : bytesK Tryz.prog 60 = some 24 := by kernel_rfl
theorem tb_sliceElem_60 : sliceElem Tryz.prog 60 = none := by kernel_rfl
theorem tb_arrElem_60 : arrElem Tryz.prog 60 = none := by kernel_rfl
theorem tb_placesK_60 : placesK Tryz.prog 60 = some [(0, 1), (1, 1), (2, 1)] := by kernel_rfl
theorem tb_byteEl_60 : byteEl Tryz.prog 60 = false := by kernel_rfl
theorem tb_flatK_60 : flatK Tryz.prog 60 = some [TypeDesc.int IntKind.i64, TypeDesc.int IntKind.i64, TypeDesc.int IntKind.i64] := by kernel_rfl
theorem tb_fieldK_60_0 : fieldK Tryz.prog 60 0 = some (0, false, 1) := by kernel_rfl
theorem tb_fieldK_60_1 : fieldK Tryz.prog 60 1 = some (1, false, 1) := by kernel_rfl
theorem tb_fieldK_60_2 : fieldK Tryz.prog 60 2 = some (2, false, 1) := by kernel_rfl
theorem tb_tk_62 : tk Tryz.prog 62 = TK.other := by kernel_rfl
theorem tb_loadK_62 : loadK Tryz.prog 62 = some (true, 6) := by kernel_rfl
theorem tb_zeroK_62 : zeroK Tryz.prog 62 = some [Value.int IntKind.i64 0, Value.int IntKind.i64 0, Value.int IntKind.i64 0, Value.string ByteArray.empty, Value.string ByteArray.empty, Value.string ByteArray.empty] := by kernel_rfl
theorem tb_bytesK_62 : bytesK Tryz.prog 62 = some 72 := by kernel_rfl
theorem tb_sliceElem_62 : sliceElem Tryz.prog 62 = none := by kernel_rfl
theorem tb_arrElem_62 : arrElem Tryz.prog 62 = none := by kernel_rfl
theorem tb_placesK_62 : placesK Tryz.prog 62 = some [(0, 3), (3, 1), (4, 1), (5, 1)] := by kernel_rfl
theorem tb_byteEl_62 : byteEl Tryz.prog 62 = false := by kernel_rfl
theorem tb_flatK_62 : flatK Tryz.prog 62 = some [TypeDesc.int IntKind.i64, TypeDesc.int IntKind.i64, TypeDesc.int IntKind.i64, TypeDesc.string, TypeDesc.string, TypeDesc.string] := by kernel_rfl
theorem tb_fieldK_62_0 : fieldK Tryz.prog 62 0 = some (0, true, 3) := by kernel_rfl
theorem tb_fieldK_62_1 : fieldK Tryz.prog 62 1 = some (3, false, 1) := by kernel_rfl
theorem tb_fieldK_62_2 : fieldK Tryz.prog 62 2 = some (4, false, 1) := by kernel_rfl
theorem tb_fieldK_62_3 : fieldK Tryz.prog 62 3 = some (5, false, 1) := by kernel_rfl
theorem tb_tk_64 : tk Tryz.prog 64 = TK.other := by kernel_rfl
theorem tb_loadK_64 : loadK Tryz.prog 64 = some (true, 3) := by kernel_rfl
theorem tb_zeroK_64 : zeroK Tryz.prog 64 = some [Value.string ByteArray.empty, Value.string ByteArray.empty, Value.int IntKind.i64 0] := by kernel_rfl
theorem tb_bytesK_64 : bytesK Tryz.prog 64 = some 40 := by kernel_rfl
theorem tb_sliceElem_64 : sliceElem Tryz.prog 64 = none := by kernel_rfl
theorem tb_arrElem_64 : arrElem Tryz.prog 64 = none := by kernel_rfl
theorem tb_placesK_64 : placesK Tryz.prog 64 = some [(0, 1), (1, 1), (2, 1)] := by kernel_rfl
theorem tb_byteEl_64 : byteEl Tryz.prog 64 = false := by kernel_rfl
theorem tb_flatK_64 : flatK Tryz.prog 64 = some [TypeDesc.string, TypeDesc.string, TypeDesc.int IntKind.i64] := by kernel_rfl
theorem tb_fieldK_64_0 : fieldK Tryz.prog 64 0 = some (0, false, 1) := by kernel_rfl
theorem tb_fieldK_64_1 : fieldK Tryz.prog 64 1 = some (1, false, 1) := by kernel_rfl
theorem tb_fieldK_64_2 : fieldK Tryz.prog 64 2 = some (2, false, 1) := by kernel_rfl
theorem tb_tk_65 : tk Tryz.prog 65 = TK.other := by kernel_rfl
theorem tb_loadK_65 : loadK Tryz.prog 65 = some (true, 2) := by kernel_rfl
theorem tb_zeroK_65 : zeroK Tryz.prog 65 = some [Value.string ByteArray.empty, Value.int IntKind.u8 0] := by kernel_rfl
theorem tb_bytesK_65 : bytesK Tryz.prog 65 = some 24 := by kernel_rfl
theorem tb_sliceElem_65 : sliceElem Tryz.prog 65 = none := by kernel_rfl
theorem tb_arrElem_65 : arrElem Tryz.prog 65 = none := by kernel_rfl
theorem tb_placesK_65 : placesK Tryz.prog 65 = some [(0, 1), (1, 1)] := by kernel_rfl
theorem tb_byteEl_65 : byteEl Tryz.prog 65 = false := by kernel_rfl
theorem tb_flatK_65 : flatK Tryz.prog 65 = some [TypeDesc.string, TypeDesc.int IntKind.u8] := by kernel_rfl
theorem tb_fieldK_65_0 : fieldK Tryz.prog 65 0 = some (0, false, 1) := by kernel_rfl
theorem tb_fieldK_65_1 : fieldK Tryz.prog 65 1 = some (1, false, 1) := by kernel_rfl
theorem tb_tk_66 : tk Tryz.prog 66 = TK.other := by kernel_rfl
theorem tb_loadK_66 : loadK Tryz.prog 66 = some (true, 2) := by kernel_rfl
theorem tb_zeroK_66 : zeroK Tryz.prog 66 = some [Value.string ByteArray.empty, Value.int IntKind.u8 0] := by kernel_rfl
theorem tb_bytesK_66 : bytesK Tryz.prog 66 = some 24 := by kernel_rfl
theorem tb_sliceElem_66 : sliceElem Tryz.prog 66 = none := by kernel_rfl
theorem tb_arrElem_66 : arrElem Tryz.prog 66 = none := by kernel_rfl
theorem tb_placesK_66 : placesK Tryz.prog 66 = some [(0, 1), (1, 1)] := by kernel_rfl
theorem tb_byteEl_66 : byteEl Tryz.prog 66 = false := by kernel_rfl
theorem tb_flatK_66 : flatK Tryz.prog 66 = some [TypeDesc.string, TypeDesc.int IntKind.u8] := by kernel_rfl
theorem tb_fieldK_66_0 : fieldK Tryz.prog 66 0 = some (0, false, 1) := by kernel_rfl
theorem tb_fieldK_66_1 : fieldK Tryz.prog 66 1 = some (1, false, 1) := by kernel_rfl
theorem tb_tk_68 : tk Tryz.prog 68 = TK.other := by kernel_rfl
theorem tb_loadK_68 : loadK Tryz.prog 68 = some (true, 9) := by kernel_rfl
theorem tb_zeroK_68 : zeroK Tryz.prog 68 = some [Value.int IntKind.i64 0, Value.int IntKind.u8 0, Value.string ByteArray.empty, Value.int IntKind.i64 0, Value.int IntKind.i64 0, Value.int IntKind.i64 0, Value.string ByteArray.empty, Value.int IntKind.u8 0, Value.int IntKind.i64 0] := by kernel_rfl
theorem tb_bytesK_68 : bytesK Tryz.prog 68 = some 88 := by kernel_rfl
theorem tb_sliceElem_68 : sliceElem Tryz.prog 68 = none := by kernel_rfl
theorem tb_arrElem_68 : arrElem Tryz.prog 68 = none := by kernel_rfl
theorem tb_placesK_68 : placesK Tryz.prog 68 = some [(0, 1), (1, 1), (2, 1), (3, 3), (6, 2), (8, 1)] := by kernel_rfl
theorem tb_byteEl_68 : byteEl Tryz.prog 68 = false := by kernel_rfl
theorem tb_flatK_68 : flatK Tryz.prog 68 = some [TypeDesc.int IntKind.i64, TypeDesc.int IntKind.u8, TypeDesc.string, TypeDesc.int IntKind.i64, TypeDesc.int IntKind.i64, TypeDesc.int IntKind.i64, TypeDesc.string, TypeDesc.int IntKind.u8, TypeDesc.int IntKind.i64] := by kernel_rfl
theorem tb_fieldK_68_0 : fieldK Tryz.prog 68 0 = some (0, false, 1) := by kernel_rfl
theorem tb_fieldK_68_1 : fieldK Tryz.prog 68 1 = some (1, false, 1) := by kernel_rfl
theorem tb_fieldK_68_2 : fieldK Tryz.prog 68 2 = some (2, false, 1) := by kernel_rfl
theorem tb_fieldK_68_3 : fieldK Tryz.prog 68 3 = some (3, true, 3) := by kernel_rfl
theorem tb_fieldK_68_4 : fieldK Tryz.prog 68 4 = some (6, true, 2) := by kernel_rfl
theorem tb_fieldK_68_5 : fieldK Tryz.prog 68 5 = some (8, false, 1) := by kernel_rfl
theorem tb_tk_69 : tk Tryz.prog 69 = TK.other := by kernel_rfl
theorem tb_loadK_69 : loadK Tryz.prog 69 = some (false, 1) := by kernel_rfl
theorem tb_zeroK_69 : zeroK Tryz.prog 69 = some [Value.tuple { toList := [Value.int IntKind.i64 0, Value.int IntKind.i64 0] }] := by kernel_rfl
theorem tb_bytesK_69 : bytesK Tryz.prog 69 = some 0 := by kernel_rfl
theorem tb_sliceElem_69 : sliceElem Tryz.prog 69 = none := by kernel_rfl
theorem tb_arrElem_69 : arrElem Tryz.prog 69 = none := by kernel_rfl
theorem tb_byteEl_69 : byteEl Tryz.prog 69 = false := by kernel_rfl
theorem tb_tk_76 : tk Tryz.prog 76 = TK.ptr := by kernel_rfl
theorem tb_loadK_76 : loadK Tryz.prog 76 = some (false, 1) := by kernel_rfl
theorem tb_zeroK_76 : zeroK Tryz.prog 76 = some [Value.pointer none] := by kernel_rfl
theorem tb_bytesK_76 : bytesK Tryz.prog 76 = some 8 := by kernel_rfl
theorem tb_sliceElem_76 : sliceElem Tryz.prog 76 = none := by kernel_rfl
theorem tb_arrElem_76 : arrElem Tryz.prog 76 = none := by kernel_rfl
theorem tb_byteEl_76 : byteEl Tryz.prog 76 = false := by kernel_rfl
theorem tb_tk_77 : tk Tryz.prog 77 = TK.mp := by kernel_rfl
theorem tb_loadK_77 : loadK Tryz.prog 77 = some (false, 1) := by kernel_rfl
theorem tb_zeroK_77 : zeroK Tryz.prog 77 = some [Value.map none] := by kernel_rfl
theorem tb_bytesK_77 : bytesK Tryz.prog 77 = some 8 := by kernel_rfl
theorem tb_byteEl_77 : byteEl Tryz.prog 77 = false := by kernel_rfl
theorem tb_mapK_77 : mapK Tryz.prog 77 = some (KD.string, V.v (Value.bool false)) := by kernel_rfl
theorem tb_tk_79 : tk Tryz.prog 79 = TK.ptr := by kernel_rfl
theorem tb_loadK_79 : loadK Tryz.prog 79 = some (false, 1) := by kernel_rfl
theorem tb_zeroK_79 : zeroK Tryz.prog 79 = some [Value.pointer none] := by kernel_rfl
theorem tb_bytesK_79 : bytesK Tryz.prog 79 = some 8 := by kernel_rfl
theorem tb_sliceElem_79 : sliceElem Tryz.prog 79 = none := by kernel_rfl
theorem tb_arrElem_79 : arrElem Tryz.prog 79 = none := by kernel_rfl
theorem tb_byteEl_79 : byteEl Tryz.prog 79 = false := by kernel_rfl
theorem tb_tk_83 : tk Tryz.prog 83 = TK.ptr := by kernel_rfl
theorem tb_loadK_83 : loadK Tryz.prog 83 = some (false, 1) := by kernel_rfl
theorem tb_zeroK_83 : zeroK Tryz.prog 83 = some [Value.pointer none] := by kernel_rfl
theorem tb_bytesK_83 : bytesK Tryz.prog 83 = some 8 := by kernel_rfl
theorem tb_sliceElem_83 : sliceElem Tryz.prog 83 = none := by kernel_rfl
theorem tb_arrElem_83 : arrElem Tryz.prog 83 = none := by kernel_rfl
theorem tb_byteEl_83 : byteEl Tryz.prog 83 = false := by kernel_rfl
theorem tb_tk_86 : tk Tryz.prog 86 = TK.other := by kernel_rfl
theorem tb_loadK_86 : loadK Tryz.prog 86 = some (false, 1) := by kernel_rfl
theorem tb_zeroK_86 : zeroK Tryz.prog 86 = some [Value.nilFunc] := by kernel_rfl
theorem tb_bytesK_86 : bytesK Tryz.prog 86 = some 8 := by kernel_rfl
theorem tb_sliceElem_86 : sliceElem Tryz.prog 86 = none := by kernel_rfl
theorem tb_arrElem_86 : arrElem Tryz.prog 86 = none := by kernel_rfl
theorem tb_byteEl_86 : byteEl Tryz.prog 86 = false := by kernel_rfl
theorem tb_tk_89 : tk Tryz.prog 89 = TK.other := by kernel_rfl
theorem tb_loadK_89 : loadK Tryz.prog 89 = some (true, 2) := by kernel_rfl
theorem tb_zeroK_89 : zeroK Tryz.prog 89 = some [Value.slice none 0 0, Value.bool false] := by kernel_rfl
theorem tb_bytesK_89 : bytesK Tryz.prog 89 = some 32 := by kernel_rfl
theorem tb_sliceElem_89 : sliceElem Tryz.prog 89 = none := by kernel_rfl
theorem tb_arrElem_89 : arrElem Tryz.prog 89 = none := by kernel_rfl
theorem tb_placesK_89 : placesK Tryz.prog 89 = some [(0, 1), (1, 1)] := by kernel_rfl
theorem tb_byteEl_89 : byteEl Tryz.prog 89 = false := by kernel_rfl
theorem tb_fieldK_89_0 : fieldK Tryz.prog 89 0 = some (0, false, 1) := by kernel_rfl
theorem tb_fieldK_89_1 : fieldK Tryz.prog 89 1 = some (1, false, 1) := by kernel_rfl
theorem tb_tk_94 : tk Tryz.prog 94 = TK.other := by kernel_rfl
theorem tb_loadK_94 : loadK Tryz.prog 94 = some (false, 1) := by kernel_rfl
theorem tb_zeroK_94 : zeroK Tryz.prog 94 = some [Value.nilFunc] := by kernel_rfl
theorem tb_bytesK_94 : bytesK Tryz.prog 94 = some 8 := by kernel_rfl
theorem tb_sliceElem_94 : sliceElem Tryz.prog 94 = none := by kernel_rfl
theorem tb_arrElem_94 : arrElem Tryz.prog 94 = none := by kernel_rfl
theorem tb_byteEl_94 : byteEl Tryz.prog 94 = false := by kernel_rfl
theorem tb_tk_95 : tk Tryz.prog 95 = TK.other := by kernel_rfl
theorem tb_loadK_95 : loadK Tryz.prog 95 = some (false, 1) := by kernel_rfl
theorem tb_zeroK_95 : zeroK Tryz.prog 95 = some [Value.nilFunc] := by kernel_rfl
theorem tb_bytesK_95 : bytesK Tryz.prog 95 = some 8 := by kernel_rfl
theorem tb_sliceElem_95 : sliceElem Tryz.prog 95 = none := by kernel_rfl
theorem tb_arrElem_95 : arrElem Tryz.prog 95 = none := by kernel_rfl
theorem tb_byteEl_95 : byteEl Tryz.prog 95 = false := by kernel_rfl
theorem tb_tk_97 : tk Tryz.prog 97 = TK.other := by kernel_rfl
theorem tb_loadK_97 : loadK Tryz.prog 97 = some (true, 3) := by kernel_rfl
theorem tb_zeroK_97 : zeroK Tryz.prog 97 = some [Value.string ByteArray.empty, Value.nilFunc, Value.nilFunc] := by kernel_rfl
theorem tb_bytesK_97 : bytesK Tryz.prog 97 = some 32 := by kernel_rfl
theorem tb_sliceElem_97 : sliceElem Tryz.prog 97 = none := by kernel_rfl
theorem tb_arrElem_97 : arrElem Tryz.prog 97 = none := by kernel_rfl
theorem tb_placesK_97 : placesK Tryz.prog 97 = some [(0, 1), (1, 1), (2, 1)] := by kernel_rfl
theorem tb_byteEl_97 : byteEl Tryz.prog 97 = false := by kernel_rfl
theorem tb_fieldK_97_0 : fieldK Tryz.prog 97 0 = some (0, false, 1) := by kernel_rfl
theorem tb_fieldK_97_1 : fieldK Tryz.prog 97 1 = some (1, false, 1) := by kernel_rfl
theorem tb_fieldK_97_2 : fieldK Tryz.prog 97 2 = some (2, false, 1) := by kernel_rfl
theorem tb_tk_98 : tk Tryz.prog 98 = TK.other := by kernel_rfl
theorem tb_loadK_98 : loadK Tryz.prog 98 = some (true, 15) := by kernel_rfl
theorem tb_zeroK_98 : zeroK Tryz.prog 98 = some [Value.string ByteArray.empty, Value.nilFunc, Value.nilFunc, Value.string ByteArray.empty, Value.nilFunc, Value.nilFunc, Value.string ByteArray.empty, Value.nilFunc, Value.nilFunc, Value.string ByteArray.empty, Value.nilFunc, Value.nilFunc, Value.string ByteArray.empty, Value.nilFunc, Value.nilFunc] := by kernel_rfl
theorem tb_bytesK_98 : bytesK Tryz.prog 98 = some 160 := by kernel_rfl
theorem tb_sliceElem_98 : sliceElem Tryz.prog 98 = none := by kernel_rfl
theorem tb_arrElem_98 : arrElem Tryz.prog 98 = some (5, 3) := by kernel_rfl
theorem tb_placesK_98 : placesK Tryz.prog 98 = some [(0, 3), (3, 3), (6, 3), (9, 3), (12, 3), (15, 3), (18, 3), (21, 3)] := by kernel_rfl
theorem tb_byteEl_98 : byteEl Tryz.prog 98 = false := by kernel_rfl
theorem tb_arrLoad_98 : arrLoad Tryz.prog 98 = some (5, true, 3) := by kernel_rfl
theorem tb_tk_103 : tk Tryz.prog 103 = TK.other := by kernel_rfl
theorem tb_loadK_103 : loadK Tryz.prog 103 = some (true, 1) := by kernel_rfl
theorem tb_zeroK_103 : zeroK Tryz.prog 103 = some [Value.slice none 0 0] := by kernel_rfl
theorem tb_bytesK_103 : bytesK Tryz.prog 103 = some 24 := by kernel_rfl
theorem tb_sliceElem_103 : sliceElem Tryz.prog 103 = none := by kernel_rfl
theorem tb_arrElem_103 : arrElem Tryz.prog 103 = none := by kernel_rfl
theorem tb_placesK_103 : placesK Tryz.prog 103 = some [(0, 1)] := by kernel_rfl
theorem tb_byteEl_103 : byteEl Tryz.prog 103 = false := by kernel_rfl
theorem tb_fieldK_103_0 : fieldK Tryz.prog 103 0 = some (0, false, 1) := by kernel_rfl
theorem tb_tk_106 : tk Tryz.prog 106 = TK.slc := by kernel_rfl
theorem tb_loadK_106 : loadK Tryz.prog 106 = some (false, 1) := by kernel_rfl
theorem tb_zeroK_106 : zeroK Tryz.prog 106 = some [Value.slice none 0 0] := by kernel_rfl
theorem tb_bytesK_106 : bytesK Tryz.prog 106 = some 24 := by kernel_rfl
theorem tb_sliceElem_106 : sliceElem Tryz.prog 106 = some (97, 3) := by kernel_rfl
theorem tb_arrElem_106 : arrElem Tryz.prog 106 = none := by kernel_rfl
theorem tb_byteEl_106 : byteEl Tryz.prog 106 = false := by kernel_rfl
theorem tb_tk_107 : tk Tryz.prog 107 = TK.other := by kernel_rfl
theorem tb_loadK_107 : loadK Tryz.prog 107 = some (false, 1) := by kernel_rfl
theorem tb_zeroK_107 : zeroK Tryz.prog 107 = some [Value.nilFunc] := by kernel_rfl
theorem tb_bytesK_107 : bytesK Tryz.prog 107 = some 8 := by kernel_rfl
theorem tb_sliceElem_107 : sliceElem Tryz.prog 107 = none := by kernel_rfl
theorem tb_arrElem_107 : arrElem Tryz.prog 107 = none := by kernel_rfl
theorem tb_byteEl_107 : byteEl Tryz.prog 107 = false := by kernel_rfl
theorem tb_tk_108 : tk Tryz.prog 108 = TK.ptr := by kernel_rfl
theorem tb_loadK_108 : loadK Tryz.prog 108 = some (false, 1) := by kernel_rfl
theorem tb_zeroK_108 : zeroK Tryz.prog 108 = some [Value.pointer none] := by kernel_rfl
theorem tb_bytesK_108 : bytesK Tryz.prog 108 = some 8 := by kernel_rfl
theorem tb_sliceElem_108 : sliceElem Tryz.prog 108 = none := by kernel_rfl
theorem tb_arrElem_108 : arrElem Tryz.prog 108 = none := by kernel_rfl
theorem tb_byteEl_108 : byteEl Tryz.prog 108 = false := by kernel_rfl
theorem tb_tk_114 : tk Tryz.prog 114 = TK.slc := by kernel_rfl
theorem tb_loadK_114 : loadK Tryz.prog 114 = some (false, 1) := by kernel_rfl
theorem tb_zeroK_114 : zeroK Tryz.prog 114 = some [Value.slice none 0 0] := by kernel_rfl
theorem tb_bytesK_114 : bytesK Tryz.prog 114 = some 24 := by kernel_rfl
theorem tb_sliceElem_114 : sliceElem Tryz.prog 114 = some (3, 1) := by kernel_rfl
theorem tb_arrElem_114 : arrElem Tryz.prog 114 = none := by kernel_rfl
theorem tb_byteEl_114 : byteEl Tryz.prog 114 = false := by kernel_rfl
theorem tb_tk_116 : tk Tryz.prog 116 = TK.other := by kernel_rfl
theorem tb_loadK_116 : loadK Tryz.prog 116 = some (false, 1) := by kernel_rfl
theorem tb_zeroK_116 : zeroK Tryz.prog 116 = some [Value.nilFunc] := by kernel_rfl
theorem tb_bytesK_116 : bytesK Tryz.prog 116 = some 8 := by kernel_rfl
theorem tb_sliceElem_116 : sliceElem Tryz.prog 116 = none := by kernel_rfl
theorem tb_arrElem_116 : arrElem Tryz.prog 116 = none := by kernel_rfl
theorem tb_byteEl_116 : byteEl Tryz.prog 116 = false := by kernel_rfl
theorem tb_tk_118 : tk Tryz.prog 118 = TK.other := by kernel_rfl
theorem tb_loadK_118 : loadK Tryz.prog 118 = some (false, 1) := by kernel_rfl
theorem tb_zeroK_118 : zeroK Tryz.prog 118 = some [Value.tuple { toList := [Value.slice none 0 0, Value.bool false] }] := by kernel_rfl
theorem tb_bytesK_118 : bytesK Tryz.prog 118 = some 0 := by kernel_rfl
theorem tb_sliceElem_118 : sliceElem Tryz.prog 118 = none := by kernel_rfl
theorem tb_arrElem_118 : arrElem Tryz.prog 118 = none := by kernel_rfl
theorem tb_byteEl_118 : byteEl Tryz.prog 118 = false := by kernel_rfl
theorem tb_tk_120 : tk Tryz.prog 120 = TK.other := by kernel_rfl
theorem tb_loadK_120 : loadK Tryz.prog 120 = some (false, 1) := by kernel_rfl
theorem tb_zeroK_120 : zeroK Tryz.prog 120 = some [Value.nilFunc] := by kernel_rfl
theorem tb_bytesK_120 : bytesK Tryz.prog 120 = some 8 := by kernel_rfl
theorem tb_sliceElem_120 : sliceElem Tryz.prog 120 = none := by kernel_rfl
theorem tb_arrElem_120 : arrElem Tryz.prog 120 = none := by kernel_rfl
theorem tb_byteEl_120 : byteEl Tryz.prog 120 = false := by kernel_rfl
theorem tb_tk_123 : tk Tryz.prog 123 = TK.other := by kernel_rfl
theorem tb_loadK_123 : loadK Tryz.prog 123 = some (true, 1) := by kernel_rfl
theorem tb_zeroK_123 : zeroK Tryz.prog 123 = some [Value.int IntKind.i64 0] := by kernel_rfl
theorem tb_bytesK_123 : bytesK Tryz.prog 123 = some 8 := by kernel_rfl
theorem tb_sliceElem_123 : sliceElem Tryz.prog 123 = none := by kernel_rfl
theorem tb_arrElem_123 : arrElem Tryz.prog 123 = none := by kernel_rfl
theorem tb_placesK_123 : placesK Tryz.prog 123 = some [(0, 1)] := by kernel_rfl
theorem tb_byteEl_123 : byteEl Tryz.prog 123 = false := by kernel_rfl
theorem tb_flatK_123 : flatK Tryz.prog 123 = some [TypeDesc.int IntKind.i64] := by kernel_rfl
theorem tb_fieldK_123_0 : fieldK Tryz.prog 123 0 = some (0, false, 1) := by kernel_rfl
theorem tb_tk_126 : tk Tryz.prog 126 = TK.ptr := by kernel_rfl
theorem tb_loadK_126 : loadK Tryz.prog 126 = some (false, 1) := by kernel_rfl
theorem tb_zeroK_126 : zeroK Tryz.prog 126 = some [Value.pointer none] := by kernel_rfl
theorem tb_bytesK_126 : bytesK Tryz.prog 126 = some 8 := by kernel_rfl
theorem tb_sliceElem_126 : sliceElem Tryz.prog 126 = none := by kernel_rfl
theorem tb_arrElem_126 : arrElem Tryz.prog 126 = none := by kernel_rfl
theorem tb_byteEl_126 : byteEl Tryz.prog 126 = false := by kernel_rfl
theorem tb_tk_127 : tk Tryz.prog 127 = TK.slc := by kernel_rfl
theorem tb_loadK_127 : loadK Tryz.prog 127 = some (false, 1) := by kernel_rfl
theorem tb_zeroK_127 : zeroK Tryz.prog 127 = some [Value.slice none 0 0] := by kernel_rfl
theorem tb_bytesK_127 : bytesK Tryz.prog 127 = some 24 := by kernel_rfl
theorem tb_sliceElem_127 : sliceElem Tryz.prog 127 = some (126, 1) := by kernel_rfl
theorem tb_arrElem_127 : arrElem Tryz.prog 127 = none := by kernel_rfl
theorem tb_byteEl_127 : byteEl Tryz.prog 127 = false := by kernel_rfl
theorem tb_tk_129 : tk Tryz.prog 129 = TK.slc := by kernel_rfl
theorem tb_loadK_129 : loadK Tryz.prog 129 = some (false, 1) := by kernel_rfl
theorem tb_zeroK_129 : zeroK Tryz.prog 129 = some [Value.slice none 0 0] := by kernel_rfl
theorem tb_bytesK_129 : bytesK Tryz.prog 129 = some 24 := by kernel_rfl
theorem tb_sliceElem_129 : sliceElem Tryz.prog 129 = some (5, 1) := by kernel_rfl
theorem tb_arrElem_129 : arrElem Tryz.prog 129 = none := by kernel_rfl
theorem tb_byteEl_129 : byteEl Tryz.prog 129 = true := by kernel_rfl
theorem tb_tk_130 : tk Tryz.prog 130 = TK.other := by kernel_rfl
theorem tb_loadK_130 : loadK Tryz.prog 130 = some (false, 1) := by kernel_rfl
theorem tb_zeroK_130 : zeroK Tryz.prog 130 = some [Value.nilFunc] := by kernel_rfl
theorem tb_bytesK_130 : bytesK Tryz.prog 130 = some 8 := by kernel_rfl
theorem tb_sliceElem_130 : sliceElem Tryz.prog 130 = none := by kernel_rfl
theorem tb_arrElem_130 : arrElem Tryz.prog 130 = none := by kernel_rfl
theorem tb_byteEl_130 : byteEl Tryz.prog 130 = false := by kernel_rfl
theorem tb_tk_131 : tk Tryz.prog 131 = TK.ptr := by kernel_rfl
theorem tb_loadK_131 : loadK Tryz.prog 131 = some (false, 1) := by kernel_rfl
theorem tb_zeroK_131 : zeroK Tryz.prog 131 = some [Value.pointer none] := by kernel_rfl
theorem tb_bytesK_131 : bytesK Tryz.prog 131 = some 8 := by kernel_rfl
theorem tb_sliceElem_131 : sliceElem Tryz.prog 131 = none := by kernel_rfl
theorem tb_arrElem_131 : arrElem Tryz.prog 131 = none := by kernel_rfl
theorem tb_byteEl_131 : byteEl Tryz.prog 131 = false := by kernel_rfl
theorem tb_tk_133 : tk Tryz.prog 133 = TK.other := by kernel_rfl
theorem tb_loadK_133 : loadK Tryz.prog 133 = some (true, 2) := by kernel_rfl
theorem tb_zeroK_133 : zeroK Tryz.prog 133 = some [Value.pointer none, Value.slice none 0 0] := by kernel_rfl
theorem tb_bytesK_133 : bytesK Tryz.prog 133 = some 32 := by kernel_rfl
theorem tb_sliceElem_133 : sliceElem Tryz.prog 133 = none := by kernel_rfl
theorem tb_arrElem_133 : arrElem Tryz.prog 133 = none := by kernel_rfl
theorem tb_placesK_133 : placesK Tryz.prog 133 = some [(0, 1), (1, 1)] := by kernel_rfl
theorem tb_byteEl_133 : byteEl Tryz.prog 133 = false := by kernel_rfl
theorem tb_fieldK_133_0 : fieldK Tryz.prog 133 0 = some (0, false, 1) := by kernel_rfl
theorem tb_fieldK_133_1 : fieldK Tryz.prog 133 1 = some (1, false, 1) := by kernel_rfl
theorem tb_tk_136 : tk Tryz.prog 136 = TK.other := by kernel_rfl
theorem tb_loadK_136 : loadK Tryz.prog 136 = some (false, 1) := by kernel_rfl
theorem tb_zeroK_136 : zeroK Tryz.prog 136 = some [Value.nilIface] := by kernel_rfl
theorem tb_bytesK_136 : bytesK Tryz.prog 136 = some 16 := by kernel_rfl
theorem tb_sliceElem_136 : sliceElem Tryz.prog 136 = none := by kernel_rfl
theorem tb_arrElem_136 : arrElem Tryz.prog 136 = none := by kernel_rfl
theorem tb_byteEl_136 : byteEl Tryz.prog 136 = false := by kernel_rfl
theorem tb_tk_137 : tk Tryz.prog 137 = TK.other := by kernel_rfl
theorem tb_loadK_137 : loadK Tryz.prog 137 = some (false, 1) := by kernel_rfl
theorem tb_zeroK_137 : zeroK Tryz.prog 137 = some [Value.tuple { toList := [Value.int IntKind.i64 0, Value.nilIface] }] := by kernel_rfl
theorem tb_bytesK_137 : bytesK Tryz.prog 137 = some 0 := by kernel_rfl
theorem tb_sliceElem_137 : sliceElem Tryz.prog 137 = none := by kernel_rfl
theorem tb_arrElem_137 : arrElem Tryz.prog 137 = none := by kernel_rfl
theorem tb_byteEl_137 : byteEl Tryz.prog 137 = false := by kernel_rfl
theorem tb_tk_139 : tk Tryz.prog 139 = TK.ptr := by kernel_rfl
theorem tb_loadK_139 : loadK Tryz.prog 139 = some (false, 1) := by kernel_rfl
theorem tb_zeroK_139 : zeroK Tryz.prog 139 = some [Value.pointer none] := by kernel_rfl
theorem tb_bytesK_139 : bytesK Tryz.prog 139 = some 8 := by kernel_rfl
theorem tb_sliceElem_139 : sliceElem Tryz.prog 139 = none := by kernel_rfl
theorem tb_arrElem_139 : arrElem Tryz.prog 139 = none := by kernel_rfl
theorem tb_byteEl_139 : byteEl Tryz.prog 139 = false := by kernel_rfl
theorem tb_tk_140 : tk Tryz.prog 140 = TK.mp := by kernel_rfl
theorem tb_loadK_140 : loadK Tryz.prog 140 = some (false, 1) := by kernel_rfl
theorem tb_zeroK_140 : zeroK Tryz.prog 140 = some [Value.map none] := by kernel_rfl
theorem tb_bytesK_140 : bytesK Tryz.prog 140 = some 8 := by kernel_rfl
theorem tb_byteEl_140 : byteEl Tryz.prog 140 = false := by kernel_rfl
theorem tb_mapK_140 : mapK Tryz.prog 140 = some (KD.int IntKind.i64, V.v (Value.bool false)) := by kernel_rfl
theorem tb_tk_143 : tk Tryz.prog 143 = TK.other := by kernel_rfl
theorem tb_loadK_143 : loadK Tryz.prog 143 = some (false, 1) := by kernel_rfl
theorem tb_zeroK_143 : zeroK Tryz.prog 143 = some [Value.nilFunc] := by kernel_rfl
theorem tb_bytesK_143 : bytesK Tryz.prog 143 = some 8 := by kernel_rfl
theorem tb_sliceElem_143 : sliceElem Tryz.prog 143 = none := by kernel_rfl
theorem tb_arrElem_143 : arrElem Tryz.prog 143 = none := by kernel_rfl
theorem tb_byteEl_143 : byteEl Tryz.prog 143 = false := by kernel_rfl
theorem tb_tk_146 : tk Tryz.prog 146 = TK.other := by kernel_rfl
theorem tb_loadK_146 : loadK Tryz.prog 146 = some (false, 1) := by kernel_rfl
theorem tb_zeroK_146 : zeroK Tryz.prog 146 = some [Value.nilFunc] := by kernel_rfl
theorem tb_bytesK_146 : bytesK Tryz.prog 146 = some 8 := by kernel_rfl
theorem tb_sliceElem_146 : sliceElem Tryz.prog 146 = none := by kernel_rfl
theorem tb_arrElem_146 : arrElem Tryz.prog 146 = none := by kernel_rfl
theorem tb_byteEl_146 : byteEl Tryz.prog 146 = false := by kernel_rfl
theorem tb_tk_149 : tk Tryz.prog 149 = TK.other := by kernel_rfl
theorem tb_loadK_149 : loadK Tryz.prog 149 = some (false, 1) := by kernel_rfl
theorem tb_zeroK_149 : zeroK Tryz.prog 149 = some [Value.tuple { toList := [Value.int IntKind.i64 0, Value.bool false] }] := by kernel_rfl
theorem tb_bytesK_149 : bytesK Tryz.prog 149 = some 0 := by kernel_rfl
theorem tb_sliceElem_149 : sliceElem Tryz.prog 149 = none := by kernel_rfl
theorem tb_arrElem_149 : arrElem Tryz.prog 149 = none := by kernel_rfl
theorem tb_byteEl_149 : byteEl Tryz.prog 149 = false := by kernel_rfl
theorem tb_tk_156 : tk Tryz.prog 156 = TK.ptr := by kernel_rfl
theorem tb_loadK_156 : loadK Tryz.prog 156 = some (false, 1) := by kernel_rfl
theorem tb_zeroK_156 : zeroK Tryz.prog 156 = some [Value.pointer none] := by kernel_rfl
theorem tb_bytesK_156 : bytesK Tryz.prog 156 = some 8 := by kernel_rfl
theorem tb_sliceElem_156 : sliceElem Tryz.prog 156 = none := by kernel_rfl
theorem tb_arrElem_156 : arrElem Tryz.prog 156 = none := by kernel_rfl
theorem tb_byteEl_156 : byteEl Tryz.prog 156 = false := by kernel_rfl
theorem tb_tk_158 : tk Tryz.prog 158 = TK.other := by kernel_rfl
theorem tb_loadK_158 : loadK Tryz.prog 158 = some (false, 1) := by kernel_rfl
theorem tb_zeroK_158 : zeroK Tryz.prog 158 = some [Value.nilFunc] := by kernel_rfl
theorem tb_bytesK_158 : bytesK Tryz.prog 158 = some 8 := by kernel_rfl
theorem tb_sliceElem_158 : sliceElem Tryz.prog 158 = none := by kernel_rfl
theorem tb_arrElem_158 : arrElem Tryz.prog 158 = none := by kernel_rfl
theorem tb_byteEl_158 : byteEl Tryz.prog 158 = false := by kernel_rfl
theorem tb_tk_161 : tk Tryz.prog 161 = TK.other := by kernel_rfl
theorem tb_loadK_161 : loadK Tryz.prog 161 = some (true, 5) := by kernel_rfl
theorem tb_zeroK_161 : zeroK Tryz.prog 161 = some [Value.bool false, Value.bool false, Value.bool false, Value.bool false, Value.nilFunc] := by kernel_rfl
theorem tb_bytesK_161 : bytesK Tryz.prog 161 = some 16 := by kernel_rfl
theorem tb_sliceElem_161 : sliceElem Tryz.prog 161 = none := by kernel_rfl
theorem tb_arrElem_161 : arrElem Tryz.prog 161 = none := by kernel_rfl
theorem tb_placesK_161 : placesK Tryz.prog 161 = some [(0, 1), (1, 1), (2, 1), (3, 1), (4, 1)] := by kernel_rfl
theorem tb_byteEl_161 : byteEl Tryz.prog 161 = false := by kernel_rfl
theorem tb_fieldK_161_0 : fieldK Tryz.prog 161 0 = some (0, false, 1) := by kernel_rfl
theorem tb_fieldK_161_1 : fieldK Tryz.prog 161 1 = some (1, false, 1) := by kernel_rfl
theorem tb_fieldK_161_2 : fieldK Tryz.prog 161 2 = some (2, false, 1) := by kernel_rfl
theorem tb_fieldK_161_3 : fieldK Tryz.prog 161 3 = some (3, false, 1) := by kernel_rfl
theorem tb_fieldK_161_4 : fieldK Tryz.prog 161 4 = some (4, false, 1) := by kernel_rfl
theorem tb_tk_162 : tk Tryz.prog 162 = TK.other := by kernel_rfl
theorem tb_loadK_162 : loadK Tryz.prog 162 = some (true, 25) := by kernel_rfl
theorem tb_zeroK_162 : zeroK Tryz.prog 162 = some [Value.bool false, Value.bool false, Value.bool false, Value.bool false, Value.nilFunc, Value.bool false, Value.bool false, Value.bool false, Value.bool false, Value.nilFunc, Value.bool false, Value.bool false, Value.bool false, Value.bool false, Value.nilFunc, Value.bool false, Value.bool false, Value.bool false, Value.bool false, Value.nilFunc, Value.bool false, Value.bool false, Value.bool false, Value.bool false, Value.nilFunc] := by kernel_rfl
theorem tb_bytesK_162 : bytesK Tryz.prog 162 = some 80 := by kernel_rfl
theorem tb_sliceElem_162 : sliceElem Tryz.prog 162 = none := by kernel_rfl
theorem tb_arrElem_162 : arrElem Tryz.prog 162 = some (5, 5) := by kernel_rfl
theorem tb_placesK_162 : placesK Tryz.prog 162 = some [(0, 5), (5, 5), (10, 5), (15, 5), (20, 5), (25, 5), (30, 5), (35, 5)] := by kernel_rfl
theorem tb_byteEl_162 : byteEl Tryz.prog 162 = false := by kernel_rfl
theorem tb_arrLoad_162 : arrLoad Tryz.prog 162 = some (5, true, 5) := by kernel_rfl
theorem tb_tk_163 : tk Tryz.prog 163 = TK.other := by kernel_rfl
theorem tb_loadK_163 : loadK Tryz.prog 163 = some (false, 1) := by kernel_rfl
theorem tb_zeroK_163 : zeroK Tryz.prog 163 = some [Value.tuple { toList := [Value.string ByteArray.empty, Value.int IntKind.i64 0] }] := by kernel_rfl
theorem tb_bytesK_163 : bytesK Tryz.prog 163 = some 0 := by kernel_rfl
theorem tb_sliceElem_163 : sliceElem Tryz.prog 163 = none := by kernel_rfl
theorem tb_arrElem_163 : arrElem Tryz.prog 163 = none := by kernel_rfl
theorem tb_byteEl_163 : byteEl Tryz.prog 163 = false := by kernel_rfl
theorem tb_tk_170 : tk Tryz.prog 170 = TK.other := by kernel_rfl
theorem tb_loadK_170 : loadK Tryz.prog 170 = some (false, 1) := by kernel_rfl
theorem tb_zeroK_170 : zeroK Tryz.prog 170 = some [Value.pointer none] := by kernel_rfl
theorem tb_bytesK_170 : bytesK Tryz.prog 170 = some 8 := by kernel_rfl
theorem tb_sliceElem_170 : sliceElem Tryz.prog 170 = none := by kernel_rfl
theorem tb_arrElem_170 : arrElem Tryz.prog 170 = none := by kernel_rfl
theorem tb_byteEl_170 : byteEl Tryz.prog 170 = false := by kernel_rfl
theorem tb_tk_176 : tk Tryz.prog 176 = TK.ptr := by kernel_rfl
theorem tb_loadK_176 : loadK Tryz.prog 176 = some (false, 1) := by kernel_rfl
theorem tb_zeroK_176 : zeroK Tryz.prog 176 = some [Value.pointer none] := by kernel_rfl
theorem tb_bytesK_176 : bytesK Tryz.prog 176 = some 8 := by kernel_rfl
theorem tb_sliceElem_176 : sliceElem Tryz.prog 176 = none := by kernel_rfl
theorem tb_arrElem_176 : arrElem Tryz.prog 176 = none := by kernel_rfl
theorem tb_byteEl_176 : byteEl Tryz.prog 176 = false := by kernel_rfl
theorem tb_tk_177 : tk Tryz.prog 177 = TK.other := by kernel_rfl
theorem tb_loadK_177 : loadK Tryz.prog 177 = some (false, 1) := by kernel_rfl
theorem tb_zeroK_177 : zeroK Tryz.prog 177 = some [Value.tuple { toList := [Value.pointer none, Value.int IntKind.i64 0] }] := by kernel_rfl
theorem tb_bytesK_177 : bytesK Tryz.prog 177 = some 0 := by kernel_rfl
theorem tb_sliceElem_177 : sliceElem Tryz.prog 177 = none := by kernel_rfl
theorem tb_arrElem_177 : arrElem Tryz.prog 177 = none := by kernel_rfl
theorem tb_byteEl_177 : byteEl Tryz.prog 177 = false := by kernel_rfl
theorem tb_tk_180 : tk Tryz.prog 180 = TK.other := by kernel_rfl
theorem tb_loadK_180 : loadK Tryz.prog 180 = some (true, 24) := by kernel_rfl
theorem tb_zeroK_180 : zeroK Tryz.prog 180 = some [Value.int IntKind.u8 0, Value.int IntKind.u8 0, Value.int IntKind.u8 0, Value.int IntKind.u8 0, Value.int IntKind.u8 0, Value.int IntKind.u8 0, Value.int IntKind.u8 0, Value.int IntKind.u8 0, Value.int IntKind.u8 0, Value.int IntKind.u8 0, Value.int IntKind.u8 0, Value.int IntKind.u8 0, Value.int IntKind.u8 0, Value.int IntKind.u8 0, Value.int IntKind.u8 0, Value.int IntKind.u8 0, Value.int IntKind.u8 0, Value.int IntKind.u8 0, Value.int IntKind.u8 0, Value.int IntKind.u8 0, Value.int IntKind.u8 0, Value.int IntKind.u8 0, Value.int IntKind.u8 0, Value.int IntKind.u8 0] := by kernel_rfl
theorem tb_bytesK_180 : bytesK Tryz.prog 180 = some 24 := by kernel_rfl
theorem tb_sliceElem_180 : sliceElem Tryz.prog 180 = none := by kernel_rfl
theorem tb_arrElem_180 : arrElem Tryz.prog 180 = some (24, 1) := by kernel_rfl
theorem tb_placesK_180 : placesK Tryz.prog 180 = some [(0, 1), (1, 1), (2, 1), (3, 1), (4, 1), (5, 1), (6, 1), (7, 1)] := by kernel_rfl
theorem tb_byteEl_180 : byteEl Tryz.prog 180 = false := by kernel_rfl
theorem tb_flatK_180 : flatK Tryz.prog 180 = some [TypeDesc.int IntKind.u8, TypeDesc.int IntKind.u8, TypeDesc.int IntKind.u8, TypeDesc.int IntKind.u8, TypeDesc.int IntKind.u8, TypeDesc.int IntKind.u8, TypeDesc.int IntKind.u8, TypeDesc.int IntKind.u8, TypeDesc.int IntKind.u8, TypeDesc.int IntKind.u8, TypeDesc.int IntKind.u8, TypeDesc.int IntKind.u8, TypeDesc.int IntKind.u8, TypeDesc.int IntKind.u8, TypeDesc.int IntKind.u8, TypeDesc.int IntKind.u8, TypeDesc.int IntKind.u8, TypeDesc.int IntKind.u8, TypeDesc.int IntKind.u8, TypeDesc.int IntKind.u8, TypeDesc.int IntKind.u8, TypeDesc.int IntKind.u8, TypeDesc.int IntKind.u8, TypeDesc.int IntKind.u8] := by kernel_rfl
theorem tb_arrLoad_180 : arrLoad Tryz.prog 180 = some (24, false, 1) := by kernel_rfl
theorem tb_tk_181 : tk Tryz.prog 181 = TK.int IntKind.u64 := by kernel_rfl
theorem tb_loadK_181 : loadK Tryz.prog 181 = some (false, 1) := by kernel_rfl
theorem tb_zeroK_181 : zeroK Tryz.prog 181 = some [Value.int IntKind.u64 0] := by kernel_rfl
theorem tb_bytesK_181 : bytesK Tryz.prog 181 = some 8 := by kernel_rfl
theorem tb_byteEl_181 : byteEl Tryz.prog 181 = false := by kernel_rfl
theorem tb_tk_184 : tk Tryz.prog 184 = TK.other := by kernel_rfl
theorem tb_loadK_184 : loadK Tryz.prog 184 = some (false, 1) := by kernel_rfl
theorem tb_zeroK_184 : zeroK Tryz.prog 184 = some [Value.tuple { toList := [Value.slice none 0 0, Value.string ByteArray.empty] }] := by kernel_rfl
theorem tb_bytesK_184 : bytesK Tryz.prog 184 = some 0 := by kernel_rfl
theorem tb_sliceElem_184 : sliceElem Tryz.prog 184 = none := by kernel_rfl
theorem tb_arrElem_184 : arrElem Tryz.prog 184 = none := by kernel_rfl
theorem tb_byteEl_184 : byteEl Tryz.prog 184 = false := by kernel_rfl
theorem tb_tk_187 : tk Tryz.prog 187 = TK.int IntKind.i64 := by kernel_rfl
theorem tb_loadK_187 : loadK Tryz.prog 187 = some (false, 1) := by kernel_rfl
theorem tb_zeroK_187 : zeroK Tryz.prog 187 = some [Value.int IntKind.i64 0] := by kernel_rfl
theorem tb_bytesK_187 : bytesK Tryz.prog 187 = some 8 := by kernel_rfl
theorem tb_byteEl_187 : byteEl Tryz.prog 187 = false := by kernel_rfl
theorem tb_tk_188 : tk Tryz.prog 188 = TK.other := by kernel_rfl
theorem tb_loadK_188 : loadK Tryz.prog 188 = some (false, 1) := by kernel_rfl
theorem tb_zeroK_188 : zeroK Tryz.prog 188 = some [Value.tuple { toList := [Value.int IntKind.i64 0, Value.nilIface] }] := by kernel_rfl
theorem tb_bytesK_188 : bytesK Tryz.prog 188 = some 0 := by kernel_rfl
theorem tb_sliceElem_188 : sliceElem Tryz.prog 188 = none := by kernel_rfl
theorem tb_arrElem_188 : arrElem Tryz.prog 188 = none := by kernel_rfl
theorem tb_byteEl_188 : byteEl Tryz.prog 188 = false := by kernel_rfl
theorem tb_tk_190 : tk Tryz.prog 190 = TK.ptr := by kernel_rfl
theorem tb_loadK_190 : loadK Tryz.prog 190 = some (false, 1) := by kernel_rfl
theorem tb_zeroK_190 : zeroK Tryz.prog 190 = some [Value.pointer none] := by kernel_rfl
theorem tb_bytesK_190 : bytesK Tryz.prog 190 = some 8 := by kernel_rfl
theorem tb_sliceElem_190 : sliceElem Tryz.prog 190 = none := by kernel_rfl
theorem tb_arrElem_190 : arrElem Tryz.prog 190 = none := by kernel_rfl
theorem tb_byteEl_190 : byteEl Tryz.prog 190 = false := by kernel_rfl
theorem tb_tk_195 : tk Tryz.prog 195 = TK.other := by kernel_rfl
theorem tb_loadK_195 : loadK Tryz.prog 195 = some (false, 1) := by kernel_rfl
theorem tb_zeroK_195 : zeroK Tryz.prog 195 = some [Value.tuple { toList := [Value.int IntKind.i32 0, Value.int IntKind.i64 0] }] := by kernel_rfl
theorem tb_bytesK_195 : bytesK Tryz.prog 195 = some 0 := by kernel_rfl
theorem tb_sliceElem_195 : sliceElem Tryz.prog 195 = none := by kernel_rfl
theorem tb_arrElem_195 : arrElem Tryz.prog 195 = none := by kernel_rfl
theorem tb_byteEl_195 : byteEl Tryz.prog 195 = false := by kernel_rfl
theorem tb_tk_201 : tk Tryz.prog 201 = TK.other := by kernel_rfl
theorem tb_loadK_201 : loadK Tryz.prog 201 = some (true, 1) := by kernel_rfl
theorem tb_zeroK_201 : zeroK Tryz.prog 201 = some [Value.slice none 0 0] := by kernel_rfl
theorem tb_bytesK_201 : bytesK Tryz.prog 201 = some 24 := by kernel_rfl
theorem tb_sliceElem_201 : sliceElem Tryz.prog 201 = none := by kernel_rfl
theorem tb_arrElem_201 : arrElem Tryz.prog 201 = none := by kernel_rfl
theorem tb_placesK_201 : placesK Tryz.prog 201 = some [(0, 1)] := by kernel_rfl
theorem tb_byteEl_201 : byteEl Tryz.prog 201 = false := by kernel_rfl
theorem tb_fieldK_201_0 : fieldK Tryz.prog 201 0 = some (0, true, 1) := by kernel_rfl
theorem tb_tk_204 : tk Tryz.prog 204 = TK.other := by kernel_rfl
theorem tb_loadK_204 : loadK Tryz.prog 204 = some (true, 20) := by kernel_rfl
theorem tb_zeroK_204 : zeroK Tryz.prog 204 = some [Value.int IntKind.u64 0, Value.int IntKind.u64 0, Value.int IntKind.u64 0, Value.int IntKind.u64 0, Value.int IntKind.u64 0, Value.int IntKind.u64 0, Value.int IntKind.u64 0, Value.int IntKind.u64 0, Value.int IntKind.u64 0, Value.int IntKind.u64 0, Value.int IntKind.u64 0, Value.int IntKind.u64 0, Value.int IntKind.u64 0, Value.int IntKind.u64 0, Value.int IntKind.u64 0, Value.int IntKind.u64 0, Value.int IntKind.u64 0, Value.int IntKind.u64 0, Value.int IntKind.u64 0, Value.int IntKind.u64 0] := by kernel_rfl
theorem tb_bytesK_204 : bytesK Tryz.prog 204 = some 160 := by kernel_rfl
theorem tb_sliceElem_204 : sliceElem Tryz.prog 204 = none := by kernel_rfl
theorem tb_arrElem_204 : arrElem Tryz.prog 204 = some (20, 1) := by kernel_rfl
theorem tb_placesK_204 : placesK Tryz.prog 204 = some [(0, 1), (1, 1), (2, 1), (3, 1), (4, 1), (5, 1), (6, 1), (7, 1)] := by kernel_rfl
theorem tb_byteEl_204 : byteEl Tryz.prog 204 = false := by kernel_rfl
theorem tb_flatK_204 : flatK Tryz.prog 204 = some [TypeDesc.int IntKind.u64, TypeDesc.int IntKind.u64, TypeDesc.int IntKind.u64, TypeDesc.int IntKind.u64, TypeDesc.int IntKind.u64, TypeDesc.int IntKind.u64, TypeDesc.int IntKind.u64, TypeDesc.int IntKind.u64, TypeDesc.int IntKind.u64, TypeDesc.int IntKind.u64, TypeDesc.int IntKind.u64, TypeDesc.int IntKind.u64, TypeDesc.int IntKind.u64, TypeDesc.int IntKind.u64, TypeDesc.int IntKind.u64, TypeDesc.int IntKind.u64, TypeDesc.int IntKind.u64, TypeDesc.int IntKind.u64, TypeDesc.int IntKind.u64, TypeDesc.int IntKind.u64] := by kernel_rfl
theorem tb_arrLoad_204 : arrLoad Tryz.prog 204 = some (20, false, 1) := by kernel_rfl
theorem tb_tk_205 : tk Tryz.prog 205 = TK.int IntKind.u32 := by kernel_rfl
theorem tb_loadK_205 : loadK Tryz.prog 205 = some (false, 1) := by kernel_rfl
theorem tb_zeroK_205 : zeroK Tryz.prog 205 = some [Value.int IntKind.u32 0] := by kernel_rfl
theorem tb_bytesK_205 : bytesK Tryz.prog 205 = some 4 := by kernel_rfl
theorem tb_byteEl_205 : byteEl Tryz.prog 205 = false := by kernel_rfl
theorem tb_tk_206 : tk Tryz.prog 206 = TK.other := by kernel_rfl
theorem tb_loadK_206 : loadK Tryz.prog 206 = some (true, 65) := by kernel_rfl
theorem tb_bytesK_206 : bytesK Tryz.prog 206 = some 65 := by kernel_rfl
theorem tb_sliceElem_206 : sliceElem Tryz.prog 206 = none := by kernel_rfl
theorem tb_arrElem_206 : arrElem Tryz.prog 206 = some (65, 1) := by kernel_rfl
theorem tb_placesK_206 : placesK Tryz.prog 206 = some [(0, 1), (1, 1), (2, 1), (3, 1), (4, 1), (5, 1), (6, 1), (7, 1)] := by kernel_rfl
theorem tb_byteEl_206 : byteEl Tryz.prog 206 = false := by kernel_rfl
theorem tb_arrLoad_206 : arrLoad Tryz.prog 206 = some (65, false, 1) := by kernel_rfl
theorem tb_tk_207 : tk Tryz.prog 207 = TK.int IntKind.u64 := by kernel_rfl
theorem tb_loadK_207 : loadK Tryz.prog 207 = some (false, 1) := by kernel_rfl
theorem tb_zeroK_207 : zeroK Tryz.prog 207 = some [Value.int IntKind.u64 0] := by kernel_rfl
theorem tb_bytesK_207 : bytesK Tryz.prog 207 = some 8 := by kernel_rfl
theorem tb_byteEl_207 : byteEl Tryz.prog 207 = false := by kernel_rfl
theorem tb_tk_210 : tk Tryz.prog 210 = TK.other := by kernel_rfl
theorem tb_loadK_210 : loadK Tryz.prog 210 = some (false, 1) := by kernel_rfl
theorem tb_zeroK_210 : zeroK Tryz.prog 210 = some [Value.tuple { toList := [Value.int IntKind.u64 0, Value.nilIface] }] := by kernel_rfl
theorem tb_bytesK_210 : bytesK Tryz.prog 210 = some 0 := by kernel_rfl
theorem tb_sliceElem_210 : sliceElem Tryz.prog 210 = none := by kernel_rfl
theorem tb_arrElem_210 : arrElem Tryz.prog 210 = none := by kernel_rfl
theorem tb_byteEl_210 : byteEl Tryz.prog 210 = false := by kernel_rfl
theorem tb_tk_214 : tk Tryz.prog 214 = TK.other := by kernel_rfl
theorem tb_loadK_214 : loadK Tryz.prog 214 = some (true, 3) := by kernel_rfl
theorem tb_zeroK_214 : zeroK Tryz.prog 214 = some [Value.string ByteArray.empty, Value.string ByteArray.empty, Value.nilIface] := by kernel_rfl
theorem tb_bytesK_214 : bytesK Tryz.prog 214 = some 48 := by kernel_rfl
theorem tb_sliceElem_214 : sliceElem Tryz.prog 214 = none := by kernel_rfl
theorem tb_arrElem_214 : arrElem Tryz.prog 214 = none := by kernel_rfl
theorem tb_placesK_214 : placesK Tryz.prog 214 = some [(0, 1), (1, 1), (2, 1)] := by kernel_rfl
theorem tb_byteEl_214 : byteEl Tryz.prog 214 = false := by kernel_rfl
theorem tb_fieldK_214_0 : fieldK Tryz.prog 214 0 = some (0, false, 1) := by kernel_rfl
theorem tb_fieldK_214_1 : fieldK Tryz.prog 214 1 = some (1, false, 1) := by kernel_rfl
theorem tb_fieldK_214_2 : fieldK Tryz.prog 214 2 = some (2, false, 1) := by kernel_rfl
theorem tb_tk_218 : tk Tryz.prog 218 = TK.ptr := by kernel_rfl
theorem tb_loadK_218 : loadK Tryz.prog 218 = some (false, 1) := by kernel_rfl
theorem tb_zeroK_218 : zeroK Tryz.prog 218 = some [Value.pointer none] := by kernel_rfl
theorem tb_bytesK_218 : bytesK Tryz.prog 218 = some 8 := by kernel_rfl
theorem tb_sliceElem_218 : sliceElem Tryz.prog 218 = none := by kernel_rfl
theorem tb_arrElem_218 : arrElem Tryz.prog 218 = none := by kernel_rfl
theorem tb_byteEl_218 : byteEl Tryz.prog 218 = false := by kernel_rfl
theorem tb_tk_220 : tk Tryz.prog 220 = TK.other := by kernel_rfl
theorem tb_loadK_220 : loadK Tryz.prog 220 = some (true, 1) := by kernel_rfl
theorem tb_zeroK_220 : zeroK Tryz.prog 220 = some [Value.string ByteArray.empty] := by kernel_rfl
theorem tb_bytesK_220 : bytesK Tryz.prog 220 = some 16 := by kernel_rfl
theorem tb_sliceElem_220 : sliceElem Tryz.prog 220 = none := by kernel_rfl
theorem tb_arrElem_220 : arrElem Tryz.prog 220 = none := by kernel_rfl
theorem tb_placesK_220 : placesK Tryz.prog 220 = some [(0, 1)] := by kernel_rfl
theorem tb_byteEl_220 : byteEl Tryz.prog 220 = false := by kernel_rfl
theorem tb_flatK_220 : flatK Tryz.prog 220 = some [TypeDesc.string] := by kernel_rfl
theorem tb_fieldK_220_0 : fieldK Tryz.prog 220 0 = some (0, false, 1) := by kernel_rfl
theorem tb_tk_221 : tk Tryz.prog 221 = TK.other := by kernel_rfl
theorem tb_loadK_221 : loadK Tryz.prog 221 = some (true, 256) := by kernel_rfl
theorem tb_bytesK_221 : bytesK Tryz.prog 221 = some 256 := by kernel_rfl
theorem tb_sliceElem_221 : sliceElem Tryz.prog 221 = none := by kernel_rfl
theorem tb_arrElem_221 : arrElem Tryz.prog 221 = some (256, 1) := by kernel_rfl
theorem tb_placesK_221 : placesK Tryz.prog 221 = some [(0, 1), (1, 1), (2, 1), (3, 1), (4, 1), (5, 1), (6, 1), (7, 1)] := by kernel_rfl
theorem tb_byteEl_221 : byteEl Tryz.prog 221 = false := by kernel_rfl
theorem tb_arrLoad_221 : arrLoad Tryz.prog 221 = some (256, false, 1) := by kernel_rfl
theorem tb_tk_223 : tk Tryz.prog 223 = TK.other := by kernel_rfl
theorem tb_loadK_223 : loadK Tryz.prog 223 = some (true, 2) := by kernel_rfl
theorem tb_zeroK_223 : zeroK Tryz.prog 223 = some [Value.int IntKind.u8 0, Value.int IntKind.u8 0] := by kernel_rfl
theorem tb_bytesK_223 : bytesK Tryz.prog 223 = some 2 := by kernel_rfl
theorem tb_sliceElem_223 : sliceElem Tryz.prog 223 = none := by kernel_rfl
theorem tb_arrElem_223 : arrElem Tryz.prog 223 = none := by kernel_rfl
theorem tb_placesK_223 : placesK Tryz.prog 223 = some [(0, 1), (1, 1)] := by kernel_rfl
theorem tb_byteEl_223 : byteEl Tryz.prog 223 = false := by kernel_rfl
theorem tb_flatK_223 : flatK Tryz.prog 223 = some [TypeDesc.int IntKind.u8, TypeDesc.int IntKind.u8] := by kernel_rfl
theorem tb_fieldK_223_0 : fieldK Tryz.prog 223 0 = some (0, false, 1) := by kernel_rfl
theorem tb_fieldK_223_1 : fieldK Tryz.prog 223 1 = some (1, false, 1) := by kernel_rfl
theorem tb_tk_224 : tk Tryz.prog 224 = TK.other := by kernel_rfl
theorem tb_loadK_224 : loadK Tryz.prog 224 = some (true, 32) := by kernel_rfl
theorem tb_zeroK_224 : zeroK Tryz.prog 224 = some [Value.int IntKind.u8 0, Value.int IntKind.u8 0, Value.int IntKind.u8 0, Value.int IntKind.u8 0, Value.int IntKind.u8 0, Value.int IntKind.u8 0, Value.int IntKind.u8 0, Value.int IntKind.u8 0, Value.int IntKind.u8 0, Value.int IntKind.u8 0, Value.int IntKind.u8 0, Value.int IntKind.u8 0, Value.int IntKind.u8 0, Value.int IntKind.u8 0, Value.int IntKind.u8 0, Value.int IntKind.u8 0, Value.int IntKind.u8 0, Value.int IntKind.u8 0, Value.int IntKind.u8 0, Value.int IntKind.u8 0, Value.int IntKind.u8 0, Value.int IntKind.u8 0, Value.int IntKind.u8 0, Value.int IntKind.u8 0, Value.int IntKind.u8 0, Value.int IntKind.u8 0, Value.int IntKind.u8 0, Value.int IntKind.u8 0, Value.int IntKind.u8 0, Value.int IntKind.u8 0, Value.int IntKind.u8 0, Value.int IntKind.u8 0] := by kernel_rfl
theorem tb_bytesK_224 : bytesK Tryz.prog 224 = some 32 := by kernel_rfl
theorem tb_sliceElem_224 : sliceElem Tryz.prog 224 = none := by kernel_rfl
theorem tb_arrElem_224 : arrElem Tryz.prog 224 = some (16, 2) := by kernel_rfl
theorem tb_placesK_224 : placesK Tryz.prog 224 = some [(0, 2), (2, 2), (4, 2), (6, 2), (8, 2), (10, 2), (12, 2), (14, 2)] := by kernel_rfl
theorem tb_byteEl_224 : byteEl Tryz.prog 224 = false := by kernel_rfl
theorem tb_flatK_224 : flatK Tryz.prog 224 = some [TypeDesc.int IntKind.u8, TypeDesc.int IntKind.u8, TypeDesc.int IntKind.u8, TypeDesc.int IntKind.u8, TypeDesc.int IntKind.u8, TypeDesc.int IntKind.u8, TypeDesc.int IntKind.u8, TypeDesc.int IntKind.u8, TypeDesc.int IntKind.u8, TypeDesc.int IntKind.u8, TypeDesc.int IntKind.u8, TypeDesc.int IntKind.u8, TypeDesc.int IntKind.u8, TypeDesc.int IntKind.u8, TypeDesc.int IntKind.u8, TypeDesc.int IntKind.u8, TypeDesc.int IntKind.u8, TypeDesc.int IntKind.u8, TypeDesc.int IntKind.u8, TypeDesc.int IntKind.u8, TypeDesc.int IntKind.u8, TypeDesc.int IntKind.u8, TypeDesc.int IntKind.u8, TypeDesc.int IntKind.u8, TypeDesc.int IntKind.u8, TypeDesc.int IntKind.u8, TypeDesc.int IntKind.u8, TypeDesc.int IntKind.u8, TypeDesc.int IntKind.u8, TypeDesc.int IntKind.u8, TypeDesc.int IntKind.u8, TypeDesc.int IntKind.u8] := by kernel_rfl
theorem tb_arrLoad_224 : arrLoad Tryz.prog 224 = some (16, true, 2) := by kernel_rfl
theorem tb_tk_225 : tk Tryz.prog 225 = TK.other := by kernel_rfl
theorem tb_loadK_225 : loadK Tryz.prog 225 = some (false, 1) := by kernel_rfl
theorem tb_zeroK_225 : zeroK Tryz.prog 225 = some [Value.tuple { toList := [Value.int IntKind.u32 0, Value.int IntKind.u32 0] }] := by kernel_rfl
theorem tb_bytesK_225 : bytesK Tryz.prog 225 = some 0 := by kernel_rfl
theorem tb_sliceElem_225 : sliceElem Tryz.prog 225 = none := by kernel_rfl
theorem tb_arrElem_225 : arrElem Tryz.prog 225 = none := by kernel_rfl
theorem tb_byteEl_225 : byteEl Tryz.prog 225 = false := by kernel_rfl
theorem tb_tk_227 : tk Tryz.prog 227 = TK.other := by kernel_rfl
theorem tb_loadK_227 : loadK Tryz.prog 227 = some (true, 32) := by kernel_rfl
theorem tb_zeroK_227 : zeroK Tryz.prog 227 = some [Value.int IntKind.u8 0, Value.int IntKind.u8 0, Value.int IntKind.u8 0, Value.int IntKind.u8 0, Value.int IntKind.u8 0, Value.int IntKind.u8 0, Value.int IntKind.u8 0, Value.int IntKind.u8 0, Value.int IntKind.u8 0, Value.int IntKind.u8 0, Value.int IntKind.u8 0, Value.int IntKind.u8 0, Value.int IntKind.u8 0, Value.int IntKind.u8 0, Value.int IntKind.u8 0, Value.int IntKind.u8 0, Value.int IntKind.u8 0, Value.int IntKind.u8 0, Value.int IntKind.u8 0, Value.int IntKind.u8 0, Value.int IntKind.u8 0, Value.int IntKind.u8 0, Value.int IntKind.u8 0, Value.int IntKind.u8 0, Value.int IntKind.u8 0, Value.int IntKind.u8 0, Value.int IntKind.u8 0, Value.int IntKind.u8 0, Value.int IntKind.u8 0, Value.int IntKind.u8 0, Value.int IntKind.u8 0, Value.int IntKind.u8 0] := by kernel_rfl
theorem tb_bytesK_227 : bytesK Tryz.prog 227 = some 32 := by kernel_rfl
theorem tb_sliceElem_227 : sliceElem Tryz.prog 227 = none := by kernel_rfl
theorem tb_arrElem_227 : arrElem Tryz.prog 227 = some (32, 1) := by kernel_rfl
theorem tb_placesK_227 : placesK Tryz.prog 227 = some [(0, 1), (1, 1), (2, 1), (3, 1), (4, 1), (5, 1), (6, 1), (7, 1)] := by kernel_rfl
theorem tb_byteEl_227 : byteEl Tryz.prog 227 = false := by kernel_rfl
theorem tb_flatK_227 : flatK Tryz.prog 227 = some [TypeDesc.int IntKind.u8, TypeDesc.int IntKind.u8, TypeDesc.int IntKind.u8, TypeDesc.int IntKind.u8, TypeDesc.int IntKind.u8, TypeDesc.int IntKind.u8, TypeDesc.int IntKind.u8, TypeDesc.int IntKind.u8, TypeDesc.int IntKind.u8, TypeDesc.int IntKind.u8, TypeDesc.int IntKind.u8, TypeDesc.int IntKind.u8, TypeDesc.int IntKind.u8, TypeDesc.int IntKind.u8, TypeDesc.int IntKind.u8, TypeDesc.int IntKind.u8, TypeDesc.int IntKind.u8, TypeDesc.int IntKind.u8, TypeDesc.int IntKind.u8, TypeDesc.int IntKind.u8, TypeDesc.int IntKind.u8, TypeDesc.int IntKind.u8, TypeDesc.int IntKind.u8, TypeDesc.int IntKind.u8, TypeDesc.int IntKind.u8, TypeDesc.int IntKind.u8, TypeDesc.int IntKind.u8, TypeDesc.int IntKind.u8, TypeDesc.int IntKind.u8, TypeDesc.int IntKind.u8, TypeDesc.int IntKind.u8, TypeDesc.int IntKind.u8] := by kernel_rfl
theorem tb_arrLoad_227 : arrLoad Tryz.prog 227 = some (32, false, 1) := by kernel_rfl
theorem tb_tk_228 : tk Tryz.prog 228 = TK.other := by kernel_rfl
theorem tb_loadK_228 : loadK Tryz.prog 228 = some (true, 64) := by kernel_rfl
theorem tb_bytesK_228 : bytesK Tryz.prog 228 = some 64 := by kernel_rfl
theorem tb_sliceElem_228 : sliceElem Tryz.prog 228 = none := by kernel_rfl
theorem tb_arrElem_228 : arrElem Tryz.prog 228 = some (64, 1) := by kernel_rfl
theorem tb_placesK_228 : placesK Tryz.prog 228 = some [(0, 1), (1, 1), (2, 1), (3, 1), (4, 1), (5, 1), (6, 1), (7, 1)] := by kernel_rfl
theorem tb_byteEl_228 : byteEl Tryz.prog 228 = false := by kernel_rfl
theorem tb_arrLoad_228 : arrLoad Tryz.prog 228 = some (64, false, 1) := by kernel_rfl
theorem mixed : Tryz.prog.follows .mixedOrders = true := by kernel_rfl
attribute [go_sem] tb_tk_0 tb_loadK_0 tb_zeroK_0 tb_bytesK_0 tb_sliceElem_0 tb_arrElem_0 tb_byteEl_0 tb_tk_1 tb_loadK_1 tb_zeroK_1 tb_bytesK_1 tb_sliceElem_1
attribute [go_sem] tb_arrElem_1 tb_byteEl_1 tb_tk_2 tb_loadK_2 tb_zeroK_2 tb_bytesK_2 tb_byteEl_2 tb_tk_3 tb_loadK_3 tb_zeroK_3 tb_bytesK_3 tb_byteEl_3
attribute [go_sem] tb_tk_4 tb_loadK_4 tb_zeroK_4 tb_bytesK_4 tb_byteEl_4 tb_tk_5 tb_loadK_5 tb_zeroK_5 tb_bytesK_5 tb_byteEl_5 tb_tk_6 tb_loadK_6
attribute [go_sem] tb_zeroK_6 tb_bytesK_6 tb_byteEl_6 tb_tk_7 tb_loadK_7 tb_zeroK_7 tb_bytesK_7 tb_sliceElem_7 tb_arrElem_7 tb_placesK_7 tb_byteEl_7 tb_flatK_7
attribute [go_sem] tb_fieldK_7_0 tb_fieldK_7_1 tb_fieldK_7_2 tb_fieldK_7_3 tb_tk_8 tb_loadK_8 tb_zeroK_8 tb_bytesK_8 tb_sliceElem_8 tb_arrElem_8 tb_placesK_8 tb_byteEl_8
attribute [go_sem] tb_flatK_8 tb_fieldK_8_0 tb_fieldK_8_1 tb_fieldK_8_2 tb_fieldK_8_3 tb_tk_9 tb_loadK_9 tb_zeroK_9 tb_bytesK_9 tb_byteEl_9 tb_arrLoad_9 tb_tk_10
attribute [go_sem] tb_loadK_10 tb_zeroK_10 tb_bytesK_10 tb_byteEl_10 tb_arrLoad_10 tb_tk_11 tb_loadK_11 tb_zeroK_11 tb_bytesK_11 tb_byteEl_11 tb_arrLoad_11 tb_tk_12
attribute [go_sem] tb_loadK_12 tb_zeroK_12 tb_bytesK_12 tb_byteEl_12 tb_tk_13 tb_loadK_13 tb_zeroK_13 tb_bytesK_13 tb_sliceElem_13 tb_arrElem_13 tb_placesK_13 tb_byteEl_13
attribute [go_sem] tb_fieldK_13_0 tb_fieldK_13_1 tb_tk_14 tb_loadK_14 tb_zeroK_14 tb_bytesK_14 tb_sliceElem_14 tb_arrElem_14 tb_placesK_14 tb_byteEl_14 tb_fieldK_14_0 tb_fieldK_14_1
attribute [go_sem] tb_tk_15 tb_loadK_15 tb_zeroK_15 tb_bytesK_15 tb_sliceElem_15 tb_arrElem_15 tb_byteEl_15 tb_tk_16 tb_loadK_16 tb_zeroK_16 tb_bytesK_16 tb_sliceElem_16
attribute [go_sem] tb_arrElem_16 tb_byteEl_16 tb_tk_17 tb_loadK_17 tb_zeroK_17 tb_bytesK_17 tb_sliceElem_17 tb_arrElem_17 tb_byteEl_17 tb_tk_18 tb_loadK_18 tb_zeroK_18
attribute [go_sem] tb_bytesK_18 tb_sliceElem_18 tb_arrElem_18 tb_placesK_18 tb_byteEl_18 tb_fieldK_18_0 tb_tk_19 tb_loadK_19 tb_zeroK_19 tb_bytesK_19 tb_sliceElem_19 tb_arrElem_19
attribute [go_sem] tb_placesK_19 tb_byteEl_19 tb_fieldK_19_0 tb_tk_20 tb_loadK_20 tb_zeroK_20 tb_bytesK_20 tb_sliceElem_20 tb_arrElem_20 tb_byteEl_20 tb_tk_21 tb_loadK_21
attribute [go_sem] tb_zeroK_21 tb_bytesK_21 tb_byteEl_21 tb_tk_22 tb_loadK_22 tb_zeroK_22 tb_bytesK_22 tb_sliceElem_22 tb_arrElem_22 tb_byteEl_22 tb_tk_23 tb_loadK_23
attribute [go_sem] tb_zeroK_23 tb_bytesK_23 tb_sliceElem_23 tb_arrElem_23 tb_placesK_23 tb_byteEl_23 tb_fieldK_23_0 tb_tk_24 tb_loadK_24 tb_zeroK_24 tb_bytesK_24 tb_sliceElem_24
attribute [go_sem] tb_arrElem_24 tb_placesK_24 tb_byteEl_24 tb_fieldK_24_0 tb_tk_25 tb_loadK_25 tb_zeroK_25 tb_bytesK_25 tb_sliceElem_25 tb_arrElem_25 tb_byteEl_25 tb_tk_26
attribute [go_sem] tb_loadK_26 tb_zeroK_26 tb_bytesK_26 tb_sliceElem_26 tb_arrElem_26 tb_byteEl_26 tb_tk_27 tb_loadK_27 tb_zeroK_27 tb_bytesK_27 tb_sliceElem_27 tb_arrElem_27
attribute [go_sem] tb_byteEl_27 tb_tk_28 tb_loadK_28 tb_zeroK_28 tb_bytesK_28 tb_sliceElem_28 tb_arrElem_28 tb_placesK_28 tb_byteEl_28 tb_fieldK_28_0 tb_fieldK_28_1 tb_tk_29
attribute [go_sem] tb_loadK_29 tb_zeroK_29 tb_bytesK_29 tb_sliceElem_29 tb_arrElem_29 tb_placesK_29 tb_byteEl_29 tb_fieldK_29_0 tb_fieldK_29_1 tb_tk_30 tb_loadK_30 tb_zeroK_30
attribute [go_sem] tb_bytesK_30 tb_sliceElem_30 tb_arrElem_30 tb_byteEl_30 tb_tk_31 tb_loadK_31 tb_zeroK_31 tb_bytesK_31 tb_sliceElem_31 tb_arrElem_31 tb_byteEl_31 tb_tk_32
attribute [go_sem] tb_loadK_32 tb_zeroK_32 tb_bytesK_32 tb_sliceElem_32 tb_arrElem_32 tb_byteEl_32
attribute [go_sem] tb_tk_35 tb_loadK_35 tb_zeroK_35 tb_bytesK_35
attribute [go_sem] tb_sliceElem_35 tb_arrElem_35 tb_byteEl_35 tb_tk_36 tb_loadK_36 tb_zeroK_36 tb_bytesK_36 tb_byteEl_36 tb_tk_37 tb_loadK_37 tb_zeroK_37 tb_bytesK_37
attribute [go_sem] tb_sliceElem_37 tb_arrElem_37 tb_byteEl_37 tb_tk_39 tb_loadK_39
attribute [go_sem] tb_zeroK_39 tb_bytesK_39 tb_sliceElem_39 tb_arrElem_39 tb_byteEl_39
attribute [go_sem] tb_tk_41 tb_loadK_41 tb_zeroK_41 tb_bytesK_41 tb_sliceElem_41 tb_arrElem_41 tb_byteEl_41
attribute [go_sem] tb_tk_43 tb_loadK_43 tb_zeroK_43 tb_bytesK_43 tb_sliceElem_43 tb_arrElem_43 tb_byteEl_43 tb_tk_44 tb_loadK_44 tb_zeroK_44
attribute [go_sem] tb_bytesK_44 tb_sliceElem_44 tb_arrElem_44 tb_byteEl_44
attribute [go_sem] tb_tk_49 tb_loadK_49 tb_zeroK_49 tb_bytesK_49
attribute [go_sem] tb_sliceElem_49 tb_arrElem_49 tb_byteEl_49 tb_tk_51 tb_loadK_51
attribute [go_sem] tb_zeroK_51 tb_bytesK_51 tb_sliceElem_51 tb_arrElem_51 tb_byteEl_51
attribute [go_sem] tb_tk_55 tb_loadK_55 tb_zeroK_55 tb_bytesK_55 tb_sliceElem_55 tb_arrElem_55 tb_byteEl_55
attribute [go_sem] tb_tk_57 tb_loadK_57 tb_zeroK_57 tb_bytesK_57 tb_sliceElem_57
attribute [go_sem] tb_arrElem_57 tb_placesK_57 tb_byteEl_57 tb_fieldK_57_0 tb_fieldK_57_1
attribute [go_sem] tb_tk_60 tb_loadK_60 tb_zeroK_60 tb_bytesK_60 tb_sliceElem_60 tb_arrElem_60 tb_placesK_60 tb_byteEl_60 tb_flatK_60 tb_fieldK_60_0 tb_fieldK_60_1 tb_fieldK_60_2
attribute [go_sem] tb_tk_62 tb_loadK_62 tb_zeroK_62 tb_bytesK_62 tb_sliceElem_62 tb_arrElem_62 tb_placesK_62 tb_byteEl_62 tb_flatK_62 tb_fieldK_62_0 tb_fieldK_62_1
attribute [go_sem] tb_fieldK_62_2 tb_fieldK_62_3
attribute [go_sem] tb_tk_64 tb_loadK_64 tb_zeroK_64 tb_bytesK_64 tb_sliceElem_64 tb_arrElem_64 tb_placesK_64 tb_byteEl_64 tb_flatK_64 tb_fieldK_64_0
attribute [go_sem] tb_fieldK_64_1 tb_fieldK_64_2 tb_tk_65 tb_loadK_65 tb_zeroK_65 tb_bytesK_65 tb_sliceElem_65 tb_arrElem_65 tb_placesK_65 tb_byteEl_65 tb_flatK_65 tb_fieldK_65_0
attribute [go_sem] tb_fieldK_65_1 tb_tk_66 tb_loadK_66 tb_zeroK_66 tb_bytesK_66 tb_sliceElem_66 tb_arrElem_66 tb_placesK_66 tb_byteEl_66 tb_flatK_66 tb_fieldK_66_0 tb_fieldK_66_1
attribute [go_sem] tb_tk_68 tb_loadK_68 tb_zeroK_68 tb_bytesK_68 tb_sliceElem_68 tb_arrElem_68 tb_placesK_68 tb_byteEl_68 tb_flatK_68
attribute [go_sem] tb_fieldK_68_0 tb_fieldK_68_1 tb_fieldK_68_2 tb_fieldK_68_3 tb_fieldK_68_4 tb_fieldK_68_5 tb_tk_69 tb_loadK_69 tb_zeroK_69 tb_bytesK_69 tb_sliceElem_69 tb_arrElem_69
attribute [go_sem] tb_byteEl_69
attribute [go_sem] tb_tk_76 tb_loadK_76 tb_zeroK_76 tb_bytesK_76 tb_sliceElem_76
attribute [go_sem] tb_arrElem_76 tb_byteEl_76 tb_tk_77 tb_loadK_77 tb_zeroK_77 tb_bytesK_77 tb_byteEl_77 tb_mapK_77
attribute [go_sem] tb_tk_79 tb_loadK_79 tb_zeroK_79 tb_bytesK_79 tb_sliceElem_79 tb_arrElem_79 tb_byteEl_79
attribute [go_sem] tb_tk_83 tb_loadK_83 tb_zeroK_83 tb_bytesK_83 tb_sliceElem_83
attribute [go_sem] tb_arrElem_83 tb_byteEl_83
attribute [go_sem] tb_tk_86 tb_loadK_86 tb_zeroK_86 tb_bytesK_86 tb_sliceElem_86 tb_arrElem_86 tb_byteEl_86
attribute [go_sem] tb_tk_89 tb_loadK_89 tb_zeroK_89 tb_bytesK_89 tb_sliceElem_89 tb_arrElem_89 tb_placesK_89 tb_byteEl_89
attribute [go_sem] tb_fieldK_89_0 tb_fieldK_89_1
attribute [go_sem] tb_tk_94 tb_loadK_94 tb_zeroK_94 tb_bytesK_94 tb_sliceElem_94 tb_arrElem_94
attribute [go_sem] tb_byteEl_94 tb_tk_95 tb_loadK_95 tb_zeroK_95 tb_bytesK_95 tb_sliceElem_95 tb_arrElem_95 tb_byteEl_95
attribute [go_sem] tb_tk_97 tb_loadK_97 tb_zeroK_97 tb_bytesK_97 tb_sliceElem_97
attribute [go_sem] tb_arrElem_97 tb_placesK_97 tb_byteEl_97 tb_fieldK_97_0 tb_fieldK_97_1 tb_fieldK_97_2 tb_tk_98 tb_loadK_98 tb_zeroK_98 tb_bytesK_98 tb_sliceElem_98 tb_arrElem_98
attribute [go_sem] tb_placesK_98 tb_byteEl_98 tb_arrLoad_98
attribute [go_sem] tb_tk_103 tb_loadK_103 tb_zeroK_103
attribute [go_sem] tb_bytesK_103 tb_sliceElem_103 tb_arrElem_103 tb_placesK_103 tb_byteEl_103 tb_fieldK_103_0
attribute [go_sem] tb_tk_106 tb_loadK_106 tb_zeroK_106 tb_bytesK_106
attribute [go_sem] tb_sliceElem_106 tb_arrElem_106 tb_byteEl_106 tb_tk_107 tb_loadK_107 tb_zeroK_107 tb_bytesK_107 tb_sliceElem_107 tb_arrElem_107 tb_byteEl_107 tb_tk_108 tb_loadK_108
attribute [go_sem] tb_zeroK_108 tb_bytesK_108 tb_sliceElem_108 tb_arrElem_108 tb_byteEl_108
attribute [go_sem] tb_tk_114 tb_loadK_114 tb_zeroK_114 tb_bytesK_114 tb_sliceElem_114 tb_arrElem_114 tb_byteEl_114
attribute [go_sem] tb_tk_116 tb_loadK_116 tb_zeroK_116 tb_bytesK_116 tb_sliceElem_116 tb_arrElem_116
attribute [go_sem] tb_byteEl_116 tb_tk_118 tb_loadK_118 tb_zeroK_118 tb_bytesK_118
attribute [go_sem] tb_sliceElem_118 tb_arrElem_118 tb_byteEl_118 tb_tk_120 tb_loadK_120
attribute [go_sem] tb_zeroK_120 tb_bytesK_120 tb_sliceElem_120 tb_arrElem_120 tb_byteEl_120
attribute [go_sem] tb_tk_123 tb_loadK_123
attribute [go_sem] tb_zeroK_123 tb_bytesK_123 tb_sliceElem_123 tb_arrElem_123 tb_placesK_123 tb_byteEl_123 tb_flatK_123 tb_fieldK_123_0
attribute [go_sem] tb_tk_126 tb_loadK_126
attribute [go_sem] tb_zeroK_126 tb_bytesK_126 tb_sliceElem_126 tb_arrElem_126 tb_byteEl_126 tb_tk_127 tb_loadK_127 tb_zeroK_127 tb_bytesK_127 tb_sliceElem_127 tb_arrElem_127 tb_byteEl_127
attribute [go_sem] tb_tk_129 tb_loadK_129 tb_zeroK_129 tb_bytesK_129 tb_sliceElem_129
attribute [go_sem] tb_arrElem_129 tb_byteEl_129 tb_tk_130 tb_loadK_130 tb_zeroK_130 tb_bytesK_130 tb_sliceElem_130 tb_arrElem_130 tb_byteEl_130 tb_tk_131 tb_loadK_131 tb_zeroK_131
attribute [go_sem] tb_bytesK_131 tb_sliceElem_131 tb_arrElem_131 tb_byteEl_131
attribute [go_sem] tb_tk_133 tb_loadK_133 tb_zeroK_133 tb_bytesK_133 tb_sliceElem_133 tb_arrElem_133 tb_placesK_133 tb_byteEl_133 tb_fieldK_133_0 tb_fieldK_133_1
attribute [go_sem] tb_tk_136 tb_loadK_136 tb_zeroK_136 tb_bytesK_136 tb_sliceElem_136 tb_arrElem_136 tb_byteEl_136 tb_tk_137 tb_loadK_137 tb_zeroK_137
attribute [go_sem] tb_bytesK_137 tb_sliceElem_137 tb_arrElem_137 tb_byteEl_137 tb_tk_139
attribute [go_sem] tb_loadK_139 tb_zeroK_139 tb_bytesK_139 tb_sliceElem_139 tb_arrElem_139 tb_byteEl_139 tb_tk_140 tb_loadK_140 tb_zeroK_140 tb_bytesK_140 tb_byteEl_140 tb_mapK_140
attribute [go_sem] tb_tk_143 tb_loadK_143 tb_zeroK_143 tb_bytesK_143 tb_sliceElem_143 tb_arrElem_143 tb_byteEl_143
attribute [go_sem] tb_tk_146
attribute [go_sem] tb_loadK_146 tb_zeroK_146 tb_bytesK_146 tb_sliceElem_146 tb_arrElem_146 tb_byteEl_146
attribute [go_sem] tb_tk_149 tb_loadK_149 tb_zeroK_149 tb_bytesK_149
attribute [go_sem] tb_sliceElem_149 tb_arrElem_149 tb_byteEl_149
attribute [go_sem] tb_tk_156 tb_loadK_156 tb_zeroK_156
attribute [go_sem] tb_bytesK_156 tb_sliceElem_156 tb_arrElem_156 tb_byteEl_156 tb_tk_158
attribute [go_sem] tb_loadK_158 tb_zeroK_158 tb_bytesK_158 tb_sliceElem_158 tb_arrElem_158 tb_byteEl_158
attribute [go_sem] tb_tk_161 tb_loadK_161 tb_zeroK_161 tb_bytesK_161 tb_sliceElem_161 tb_arrElem_161 tb_placesK_161 tb_byteEl_161 tb_fieldK_161_0 tb_fieldK_161_1
attribute [go_sem] tb_fieldK_161_2 tb_fieldK_161_3 tb_fieldK_161_4 tb_tk_162 tb_loadK_162 tb_zeroK_162 tb_bytesK_162 tb_sliceElem_162 tb_arrElem_162 tb_placesK_162 tb_byteEl_162 tb_arrLoad_162
attribute [go_sem] tb_tk_163 tb_loadK_163 tb_zeroK_163 tb_bytesK_163 tb_sliceElem_163 tb_arrElem_163 tb_byteEl_163
attribute [go_sem] tb_tk_170 tb_loadK_170 tb_zeroK_170 tb_bytesK_170 tb_sliceElem_170 tb_arrElem_170 tb_byteEl_170
attribute [go_sem] tb_tk_176 tb_loadK_176 tb_zeroK_176 tb_bytesK_176 tb_sliceElem_176
attribute [go_sem] tb_arrElem_176 tb_byteEl_176 tb_tk_177 tb_loadK_177 tb_zeroK_177 tb_bytesK_177 tb_sliceElem_177 tb_arrElem_177 tb_byteEl_177
attribute [go_sem] tb_tk_180
attribute [go_sem] tb_loadK_180 tb_zeroK_180 tb_bytesK_180 tb_sliceElem_180 tb_arrElem_180 tb_placesK_180 tb_byteEl_180 tb_flatK_180 tb_arrLoad_180 tb_tk_181 tb_loadK_181 tb_zeroK_181
attribute [go_sem] tb_bytesK_181 tb_byteEl_181
attribute [go_sem] tb_tk_184 tb_loadK_184 tb_zeroK_184 tb_bytesK_184 tb_sliceElem_184 tb_arrElem_184 tb_byteEl_184
attribute [go_sem] tb_tk_187 tb_loadK_187 tb_zeroK_187 tb_bytesK_187 tb_byteEl_187 tb_tk_188 tb_loadK_188 tb_zeroK_188 tb_bytesK_188 tb_sliceElem_188 tb_arrElem_188
attribute [go_sem] tb_byteEl_188 tb_tk_190 tb_loadK_190 tb_zeroK_190 tb_bytesK_190
attribute [go_sem] tb_sliceElem_190 tb_arrElem_190 tb_byteEl_190
attribute [go_sem] tb_tk_195 tb_loadK_195 tb_zeroK_195 tb_bytesK_195 tb_sliceElem_195
attribute [go_sem] tb_arrElem_195 tb_byteEl_195
attribute [go_sem] tb_tk_201 tb_loadK_201 tb_zeroK_201 tb_bytesK_201 tb_sliceElem_201 tb_arrElem_201 tb_placesK_201 tb_byteEl_201 tb_fieldK_201_0
attribute [go_sem] tb_tk_204 tb_loadK_204 tb_zeroK_204 tb_bytesK_204 tb_sliceElem_204 tb_arrElem_204 tb_placesK_204 tb_byteEl_204 tb_flatK_204 tb_arrLoad_204
attribute [go_sem] tb_tk_205 tb_loadK_205 tb_zeroK_205 tb_bytesK_205 tb_byteEl_205 tb_tk_206 tb_loadK_206 tb_bytesK_206 tb_sliceElem_206 tb_arrElem_206 tb_placesK_206 tb_byteEl_206
attribute [go_sem] tb_arrLoad_206 tb_tk_207 tb_loadK_207 tb_zeroK_207 tb_bytesK_207 tb_byteEl_207
attribute [go_sem] tb_tk_210 tb_loadK_210 tb_zeroK_210 tb_bytesK_210
attribute [go_sem] tb_sliceElem_210 tb_arrElem_210 tb_byteEl_210
attribute [go_sem] tb_tk_214 tb_loadK_214 tb_zeroK_214 tb_bytesK_214 tb_sliceElem_214 tb_arrElem_214 tb_placesK_214 tb_byteEl_214
attribute [go_sem] tb_fieldK_214_0 tb_fieldK_214_1 tb_fieldK_214_2
attribute [go_sem] tb_tk_218 tb_loadK_218 tb_zeroK_218 tb_bytesK_218 tb_sliceElem_218 tb_arrElem_218 tb_byteEl_218
attribute [go_sem] tb_tk_220 tb_loadK_220 tb_zeroK_220 tb_bytesK_220 tb_sliceElem_220 tb_arrElem_220 tb_placesK_220
attribute [go_sem] tb_byteEl_220 tb_flatK_220 tb_fieldK_220_0 tb_tk_221 tb_loadK_221 tb_bytesK_221 tb_sliceElem_221 tb_arrElem_221 tb_placesK_221 tb_byteEl_221 tb_arrLoad_221
attribute [go_sem] tb_tk_223 tb_loadK_223
attribute [go_sem] tb_zeroK_223 tb_bytesK_223 tb_sliceElem_223 tb_arrElem_223 tb_placesK_223 tb_byteEl_223 tb_flatK_223 tb_fieldK_223_0 tb_fieldK_223_1 tb_tk_224 tb_loadK_224 tb_zeroK_224
attribute [go_sem] tb_bytesK_224 tb_sliceElem_224 tb_arrElem_224 tb_placesK_224 tb_byteEl_224 tb_flatK_224 tb_arrLoad_224 tb_tk_225 tb_loadK_225 tb_zeroK_225 tb_bytesK_225 tb_sliceElem_225
attribute [go_sem] tb_arrElem_225 tb_byteEl_225 tb_tk_227 tb_loadK_227 tb_zeroK_227
attribute [go_sem] tb_bytesK_227 tb_sliceElem_227 tb_arrElem_227 tb_placesK_227 tb_byteEl_227 tb_flatK_227 tb_arrLoad_227 tb_tk_228 tb_loadK_228 tb_bytesK_228 tb_sliceElem_228 tb_arrElem_228
attribute [go_sem] tb_placesK_228 tb_byteEl_228 tb_arrLoad_228
end Go.Proofs.YtppcbmpiphhphaaGreatDoor
