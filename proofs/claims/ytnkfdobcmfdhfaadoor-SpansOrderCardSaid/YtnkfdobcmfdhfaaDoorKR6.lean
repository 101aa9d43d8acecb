import Derived.Test.YtnkfdobcmfdhfaaDoorKR2

